import Derived.Test.YtngglbakkedaiaaGreatDoorFR
import Derived.Test.YtngglbakkedaiaaGreatDoorHP
import Derived.WalkKit
import Derived.WalkSpells
import Derived.WalkLawsBesides
import Derived.Lib.Hide
import Derived.Deep.AppendLies
import Derived.Deep.RegionHeld3
import Derived.Maps.OwnOps
import Derived.Maps.OwnSet
import Derived.Deep.LoopGhost
import Derived.RangeFuncNested
import Derived.RangeFuncBound
import Derived.RangeFuncCalls
import Derived.Shelf.Abstract
import Derived.OwnWalkIn
import Derived.TacticsInMore
import Derived.LoopNIn
import Derived.LoopIn
import Derived.Maps.OwnIn
import Derived.Maps.AppendAt
import Derived.Sort.MapsRangeIn
import Derived.Sort.LoopGhostIn
import Derived.Lib.SlKeysI
set_option linter.all false
namespace Go.Proofs.YtngglbakkedaiaaGreatDoor
section
open Go.RowKit (Below)
noncomputable section
structure Inv (P:Program) (n0:Nat) (W0:World) (ρ:PM) (s:AS) (W:World):Prop where
 gb:GB ρ n0
 inj:Inj ρ W
 wr:∀b o,s.heap.get b=some o→ρ b= .abs∨∃x o',ρ b= .live x∧W.heap[x]? =some o'∧OR ρ o o'∧ρ.cap b=ocap P o'
 fresh:∀b,s.next≤b→ρ b= .abs
 gr:W0.grownBy W none
 new:∀b x,n0≤b→ρ b= .live x→W0.heap.size≤x
def okSs (n0:Nat) (s s':AS):Bool:=(List.range s.next).all fun b=>(!(s'.rd|||s'.wr).testBit b)||((s.heap.get b).isSome&&(Nat.ble n0 b||!s'.wr.testBit b))
def prn (keep:List Nat) (s:AS):AS:=⟨keep.foldl (fun t b=>t.set b (s.heap.get b)) .o,s.next,0,0⟩
def ren (size:Nat) (e:Tr Value):Tr Value:=(List.range size).foldl (fun t b=>match e.get b with|some v=>t.set b (some v)|none=>t) .o
theorem prn_get {s:AS} {b:Nat} {o:Obj}:∀(keep:List Nat) (t:Tr Obj),(∀o,t.get b=some o→s.heap.get b=some o)→(keep.foldl (fun t b=>t.set b (s.heap.get b)) t).get b=some o→s.heap.get b=some o
 |[],_,ht,h=>ht o h
 |k::r,t,ht,h=>prn_get r _ (fun o h=>by
  rw[Tr.get_set]at h
  split at h
  ·rename_i e;subst e;exact h
  ·exact ht o h) h
theorem ren_get {e:Tr Value} {b:Nat}:∀(l:List Nat) (t:Tr Value),(l.foldl (fun t b=>match e.get b with|some v=>t.set b (some v)|none=>t) t).get b=if b∈l then (e.get b).or (t.get b) else t.get b
 |[],t=>by simp
 |k::r,t=>by
  rw[List.foldl_cons,ren_get r]
  have h1:(match e.get k with|some v=>t.set k (some v)|none=>t).get b=if b=k then (e.get b).or (t.get b) else t.get b:=by
   cases hk:e.get k with
   |none=>
    dsimp only
    split
    ·rename_i h;subst h;rw[hk];rfl
    ·rfl
   |some v=>
    dsimp only
    rw[Tr.get_set]
    split
    ·rename_i h;subst h;rw[hk];rfl
    ·rfl
  rw[h1]
  by_cases hb:b=k
  ·subst hb
   simp only [List.mem_cons,true_or,if_true]
   cases e.get b<;>simp
  ·simp only [List.mem_cons,hb,false_or,if_false]
section
variable {P:Program} {n0 lf size:Nat} {W0:World}
theorem okS_at {s s':AS} (h:okSs n0 s s'=true) {b:Nat} (hb:b<s.next):(s'.tch b→∃o,s.heap.get b=some o)∧(b<n0→s'.wr.testBit b=false):=by
 have h:=List.all_eq_true.1 h b (List.mem_range.2 hb)
 rw[Bool.or_eq_true,Bool.and_eq_true,Bool.or_eq_true]at h
 have ht:s'.tch b→(s'.rd|||s'.wr).testBit b=true:=fun k=>by
  rw[Nat.testBit_or]
  rcases k with k|k<;>simp [k]
 refine⟨fun k=>?_,fun k=>?_⟩
 ·rcases h with h|h
  ·rw[ht k]at h;cases h
  ·exact Option.isSome_iff_exists.1 h.1
 ·cases hw:s'.wr.testBit b with
  |false=>rfl
  |true=>
   rcases h with h|⟨_,h|h⟩
   ·rw[ht (.inr hw)]at h;cases h
   ·have:=Nat.le_of_ble_eq_true h;omega
   ·rw[hw]at h;cases h
theorem Inv.pre {ρ:PM} {s s':AS} {W:World} (h:Inv P n0 W0 ρ s W) (ho:okSs n0 s s'=true):Pre P n0 ρ s s' W:=by
 refine⟨h.gb,h.inj,fun b hb=>?_,fun b h1 _=>h.fresh b h1⟩
 rcases Nat.lt_or_ge b s.next with hl|hl
 ·obtain⟨o,hg⟩:=(okS_at ho hl).1 hb
  rcases h.wr b o hg with k|⟨x,o',k1,k2,k3,k4⟩
  ·exact .inl k
  ·exact .inr (.inr ⟨x,o,o',k1,hg,k2,k3,k4⟩)
 ·exact .inl (h.fresh b hl)
theorem Inv.post {ρ ρ':PM} {s s' s'':AS} {W W':World} (hn0:n0≤s.next) (h:Inv P n0 W0 ρ s W) (ho:okSs n0 s s'=true) (hp:Post P ρ s s' W ρ' W') (g:Grow s s') (hn:s''.next=s'.next) (hs:∀b o,s''.heap.get b=some o→s'.heap.get b=some o):Inv P n0 W0 ρ' s'' W':=by
 have hwr:∀b x,x<W0.heap.size→ρ b= .live x→s'.wr.testBit b=false:=fun b x hx hb=>by
  rcases Nat.lt_or_ge b n0 with k|k
  ·exact (okS_at ho (Nat.lt_of_lt_of_le k hn0)).2 k
  ·have:=h.new b x k hb;omega
 obtain⟨g1,g2,g3,g4,g5⟩:=h.gr
 refine⟨h.gb.mono hp.le,hp.inj,fun b o hb=>?_,fun b hb=>?_,⟨hp.os.trans g1,hp.tape.trans g2,hp.out.trans g3,Nat.le_trans g4 hp.sz,fun x hx hn=>(hp.fr x (Nat.lt_of_lt_of_le hx g4) fun b hb=>hwr b x hx hb).trans (g5 x hx hn)⟩,fun b x hb1 hb2=>?_⟩
 ·have hb:=hs b o hb
  by_cases ht:s'.tch b∨(s.next≤b∧b<s'.next)
  ·rcases hp.wr b ht with k|⟨_,k⟩|⟨x,p,p',k1,k2,k3,k4,k5⟩
   ·exact .inl k
   ·rw[hb]at k;cases k
   ·rw[hb]at k2;cases k2
    exact .inr ⟨x,p',k1,k3,k4,k5⟩
  ·have hn:b<s.next∨s'.next≤b:=by
    by_cases h3:b<s.next
    ·exact .inl h3
    ·exact .inr (Nat.le_of_not_lt fun h4=>ht (.inr ⟨by omega,h4⟩))
   have hw:s'.wr.testBit b=false:=by
    cases e:s'.wr.testBit b with
    |false=>rfl
    |true=>exact absurd (.inl (.inr e)) ht
   have hb0:=(g.same b hw hn).symm.trans hb
   rcases h.wr b o hb0 with k|⟨x,o',k1,k2,k3,k4⟩
   ·refine .inl (Classical.byContradiction fun h3=>ht (.inr (hp.dom b k h3)))
   ·obtain⟨m1,_,m3,m4,m5⟩:=hp.keep h.inj g k1 hw hn hb0 k2 k3 k4
    exact .inr ⟨x,o',m1,m3,m4,m5⟩
 ·rw[hn]at hb
  have h0:=h.fresh b (Nat.le_trans g.next hb)
  refine Classical.byContradiction fun h3=>?_
  have:=hp.dom b h0 h3
  omega
 ·rcases hp.le.at_ b with k|⟨_,k⟩|⟨y,k1,k2|k2⟩
  ·rcases Nat.lt_or_ge x W.heap.size with hx|hx
   ·obtain⟨b0,m1,m2⟩:=hp.own b x k hb2 hx
    rcases Nat.lt_or_ge b0 n0 with j|j
    ·rw[(okS_at ho (Nat.lt_of_lt_of_le j hn0)).2 j]at m2;cases m2
    ·exact h.new b0 x j m1
   ·omega
  ·rw[k]at hb2;cases hb2
  ·have e:y=x:=Pl.live.inj (k2.symm.trans hb2)
   subst e;exact h.new b y hb1 k1
  ·rw[k2]at hb2;cases hb2
def segc (P:Program) (n0:Nat) (call:ACall) (size lf:Nat) (keep:List Nat) (c:Code) (st:St):Option (AXs×St):=match acode P n0 call none size lf c st with
 |some (x,st')=>match okSs n0 st.s st'.s&&Nat.ble n0 st.s.next with
  |true=>some (x,⟨ren size st'.env,prn keep st'.s,st'.dfs⟩)
  |false=>none
 |none=>none
def exS:AXs→Option Exit
 |.normal=>some .normal
 |.ret=>some .ret
 |.exit i=>some (.exit i)
 |_=>none
def SegQ (P:Program) (n0 size:Nat) (W0:World) (n:Nat) (c:Code) (st:St) (x:AXs) (st':St):Prop:=∀ρ a W Q,Inv P n0 W0 ρ st.s W→StR P size ρ st.env st.dfs a→(∀ρ' a' W' e,exS x=some e→PLe ρ ρ'→Inv P n0 W0 ρ' st'.s W'→StR P size ρ' st'.env st'.dfs a'→Q e a' W')→c.wpIn (fw none) n P Q a W
theorem ren_EnvR {ρ:PM} {e:Tr Value} {tm:Array Value} (h:EnvR ρ e tm) (hs:tm.size=size):EnvR ρ (ren size e) tm:=fun t=>by
 have:(ren size e).get t=if t<size then e.get t else none:=by
  unfold ren
  rw[ren_get,Tr.get_e]
  simp only [List.mem_range,Option.or_none]
 rw[this]
 split
 ·exact h t
 ·rename_i ht
  rw[Array.getD_eq_getD_getElem?,Array.getElem?_eq_none (by omega)]
  exact flat_VR rfl
theorem seg_code {call:ACall} (hc:CallOK P n0 call) (hm:P.follows .mixedOrders=true) {keep:List Nat} {c:Code} {st st':St} {x:AXs} (h:segc P n0 call size lf keep c st=some (x,st')) {n:Nat} (hx:(exS x).isSome=true):SegQ P n0 size W0 n c st x st':=by
 intro ρ a W Q hI hs hQ
 unfold segc at h
 split at h<;>try cases h
 next x1 st1 h1=>
 split at h<;>cases h
 next hok=>
 rw[Bool.and_eq_true]at hok
 have hn0:=Nat.le_of_ble_eq_true hok.2
 refine acode_sound (rd:=none) hc hm c _ _ _ _ _ _ _ h1 trivial hs (hI.pre hok.1) fun ρ1 a1 W1 hpo=>?_
 have hI1:Inv P n0 W0 ρ1 (prn keep st1.s) W1:=hI.post hn0 hok.1 hpo (acode_grow hc _ _ _ _ h1) rfl fun b o hb=>prn_get keep .o (fun o h=>by rw[Tr.get_e]at h;cases h) hb
 cases x with
 |normal=>exact fun hs1=>hQ ρ1 a1 W1 .normal rfl hpo.le hI1 ⟨ren_EnvR hs1.env hs1.size,hs1.size,hs1.defers⟩
 |ret=>exact fun hs1=>hQ ρ1 a1 W1 .ret rfl hpo.le hI1 ⟨ren_EnvR hs1.env hs1.size,hs1.size,hs1.defers⟩
 |exit i=>exact fun hs1=>hQ ρ1 a1 W1 (.exit i) rfl hpo.le hI1 ⟨ren_EnvR hs1.env hs1.size,hs1.size,hs1.defers⟩
 |panic=>cases hx
theorem seg_seq {a b:Code} {st st1 st2:St} {x:AXs} {n:Nat} (h1:SegQ P n0 size W0 n a st .normal st1) (h2:SegQ P n0 size W0 n b st1 x st2):SegQ P n0 size W0 n (.seq a b) st x st2:=by
 intro ρ ac W Q hI hs hQ
 refine wpIn_seq (h1 ρ ac W _ hI hs fun ρ1 a1 W1 e he hl hI1 hs1=>?_)
 cases he
 exact h2 ρ1 a1 W1 Q hI1 hs1 fun ρ2 a2 W2 e he hl2 hI2 hs2=>hQ ρ2 a2 W2 e he (hl.trans hl2) hI2 hs2
def segE (P:Program) (n0:Nat) (call:ACall) (lf:Nat) (keep:List Nat) (fn:Func) (st:St):Option (CO×AS):=match alv P n0 call lf st.dfs .ret st.s with
 |some (.ret,s)=>match ares P n0 st.env fn s with
  |some (r,s')=>match okSs n0 st.s s'&&Nat.ble n0 st.s.next with
   |true=>some (r,prn keep s')
   |false=>none
  |none=>none
 |_=>none
theorem seg_body {call:ACall} (hc:CallOK P n0 call) (hm:P.follows .mixedOrders=true) {keep:List Nat} {f:FuncId} {fn:Func} {c:Code} {args args':Array Value} {x:AXs} {s s':AS} {st:St} {r:CO} {n:Nat}
  (hf:P.funcs[f]? =some fn) (hb:fn.body=some c) (h1:SegQ P n0 (args.size+(fn.ntmps-args.size)) W0 n c ⟨envOf args.toList 0 .o,s,[]⟩ x st) (hx:x= .normal∨x= .ret) (h2:segE P n0 call lf keep fn st=some (r,s')) {ρ:PM} {W:World} (hI:Inv P n0 W0 ρ s W) (ha:AV ρ args args'):
  CallsIn Fence.wide n P f args' W fun e W'=>∃ρ',PLe ρ ρ'∧Inv P n0 W0 ρ' s' W'∧RetR ρ' r e:=by
 refine callsIn_of_wp_marks hf hb trivial ?_ rfl
 refine h1 ρ _ W _ hI (start_StR ha _) fun ρ1 a1 W1 e he hl hI1 hs1=>?_
 unfold segE at h2
 split at h2<;>try cases h2
 next s1 hal=>
 split at h2<;>try cases h2
 next r1 s2 har=>
 split at h2<;>cases h2
 next hok=>
 rw[Bool.and_eq_true]at hok
 have hn0:=Nat.le_of_ble_eq_true hok.2
 have har:=ares_eq har
 unfold ares0 at har
 split at har<;>cases har
 next v har=>
 have g2:=alv_grow hc _ _ _ _ _ hal
 have g3:=arun_grow _ _ _ _ har
 have hp1:=hI1.pre hok.1
 have main:LeavesInM Fence.wide n P fn a1.tmps (fun e W'=>∃ρ',PLe ρ ρ'∧Inv P n0 W0 ρ' (prn keep s2) W'∧RetR ρ' (.ret v) e) a1.defers .returning W1:=by
  refine alv_sound hc hm _ _ _ _ _ _ ρ1 _ W1 hal hs1.defers (hp1.less g3) rfl fun ρ2 W2 u2 hpo2 hmd=>?_
  have hmd:u2= .returning:=hmd
  subst hmd
  have hp2:=hp1.after hpo2 g2 g3
  have hsr:=vs_res (P:=P) (ρ:=ρ2) (g:=fun t=>(st.env.get t).getD undef) (g':=fun t=>a1.tmps.getD t undef) (fun t=>(hs1.env t).mono hpo2.le) fn
  obtain⟨ρ3,W3,⟨v',k1,k2⟩,k3⟩:=arun_sound hsr _ _ _ W2 har hp2.inj hp2.wr hp2.fresh
  have:=Still.res _ _ _ _ _ k1
  subst this
  have hpo3:=Post.trans hp1.inj g2 g3 hpo2 k3
  exact⟨v',k1,ρ3,hl.trans hpo3.le,hI1.post hn0 hok.1 hpo3 (g2.trans g3) rfl (fun b o hb=>prn_get keep .o (fun o h=>by rw[Tr.get_e]at h;cases h) hb),v',rfl,k2⟩
 cases x with
 |normal=>cases he;exact main
 |ret=>cases he;exact main
 |exit=>rcases hx with h|h<;>cases h
 |panic=>cases he
theorem gst_inv {G:GV} (hG:G.g<G.n0) {W:World} (h:GIn G W):∃ρ,Inv P G.n0 W ρ (gst G) W:=by
 have hp:=gpm_pre (P:=P) (cap:=fun _=>match W.heap[G.g]? with|some o=>ocap P o|none=>0) hG h (fun o' ho=>by rw[ho]) ⟨.o,0,bit G.g,0⟩
 refine⟨_,hp.gb,hp.inj,fun b o hb=>?_,fun b hb=>?_,⟨rfl,rfl,rfl,Nat.le_refl _,fun _ _ _=>rfl⟩,fun b x h1 h2=>?_⟩
 ·have hbg:b=G.g:=by
   unfold gst at hb
   rw[Tr.get_set]at hb
   split at hb
   ·assumption
   ·rw[Tr.get_e]at hb;cases hb
  subst hbg
  rcases hp.wr G.g (.inl (by show (bit G.g).testBit G.g=true;have:=bit_self 0 G.g;rwa[Nat.zero_or]at this)) with k|⟨_,k⟩|⟨x,p,p',k1,k2,k3,k4,k5⟩
  ·exact .inl k
  ·rw[hb]at k;cases k
  ·rw[hb]at k2;cases k2;exact .inr ⟨x,p',k1,k3,k4,k5⟩
 ·have hb:G.n0+1≤b:=hb
  simp only [gpm]
  rw[if_neg (by omega),if_neg (by omega)]
 ·simp only [gpm]at h2
  rw[if_neg (by omega)]at h2
  split at h2<;>cases h2
end
end
end
section
noncomputable section
section
variable {P:Program} {n0 lf size:Nat} {W0:World}
def CallSeg (P:Program) (n0:Nat) (W0:World) (f:FuncId) (args:Array Value) (s:AS) (r:CO) (s':AS):Prop:=∀(n:Nat) (ρ:PM) (W:World) (args':Array Value),Inv P n0 W0 ρ s W→AV ρ args args'→CallsIn Fence.wide n P f args' W fun e W'=>∃ρ',PLe ρ ρ'∧Inv P n0 W0 ρ' s' W'∧RetR ρ' r e
def OpsQ (P:Program) (n0 size:Nat) (W0:World) (n:Nat) (ops:Array Oper) (l:List Nat) (st st':St):Prop:=∀ρ a W (Q:Exit→Act→World→Prop),Inv P n0 W0 ρ st.s W→StR P size ρ st.env st.dfs a→(∀ρ' a' W',PLe ρ ρ'→Inv P n0 W0 ρ' st'.s W'→StR P size ρ' st'.env st'.dfs a'→Q .normal a' W')→wpOpsIn (fw none) n P ops Q l a W
theorem seg_region {id n:Nat} {ops:Array Oper} {st st':St} (h:OpsQ P n0 size W0 n ops (List.range ops.size) st st'):SegQ P n0 size W0 n (.region id ops false) st .normal st':=fun ρ a W Q hI hs hQ=>wpIn_region (h ρ a W Q hI hs fun ρ' a' W' h1 h2 h3=>hQ ρ' a' W' .normal rfl h1 h2 h3)
def opsc (P:Program) (n0:Nat) (call:ACall) (size:Nat) (keep:List Nat) (ops:Array Oper) (k:Nat) (st:St):Option St:=match aops P n0 call size ops true (ops.toList.drop k) st with
 |some (.normal,st')=>match okSs n0 st.s st'.s&&Nat.ble n0 st.s.next with
  |true=>some ⟨ren size st'.env,prn keep st'.s,st'.dfs⟩
  |false=>none
 |_=>none
theorem ops_end {call:ACall} (hc:CallOK P n0 call) {keep:List Nat} {ops:Array Oper} {k m:Nat} {st st':St} (h:opsc P n0 call size keep ops k st=some st') {n:Nat} (hm:(ops.toList.drop k).length=m):OpsQ P n0 size W0 n ops (List.range' k m) st st':=by
 intro ρ a W Q hI hs hQ
 subst hm
 unfold opsc at h
 split at h<;>try cases h
 next st1 h1=>
 split at h<;>cases h
 next hok=>
 rw[Bool.and_eq_true]at hok
 have hn0:=Nat.le_of_ble_eq_true hok.2
 refine aops_sound (rd:=none) hc (fun _=>rfl) (ops.toList.drop k) k st st1 .normal ρ a W rfl h1 hs (hI.pre hok.1) (fun _ ρ1 a1 W1 hs1 hpo=>?_) (fun v e=>by cases e)
 exact hQ ρ1 a1 W1 hpo.le (hI.post hn0 hok.1 hpo (aops_grow hc _ _ _ _ h1) rfl fun b o hb=>prn_get keep .o (fun o h=>by rw[Tr.get_e]at h;cases h) hb) ⟨ren_EnvR hs1.env hs1.size,hs1.size,hs1.defers⟩
def opc (P:Program) (n0:Nat) (call:ACall) (size:Nat) (keep:List Nat) (ops:Array Oper) (k:Nat) (st:St):Option St:=match ops[k]? with
 |some o=>match aop1 P n0 call size ops true o st with
  |some (.normal,st')=>match okSs n0 st.s st'.s&&Nat.ble n0 st.s.next with
   |true=>some ⟨ren size st'.env,prn keep st'.s,st'.dfs⟩
   |false=>none
  |_=>none
 |none=>none
theorem ops_one {call:ACall} (hc:CallOK P n0 call) {keep:List Nat} {ops:Array Oper} {k:Nat} {l:List Nat} {st st1 st':St} (h:opc P n0 call size keep ops k st=some st1) {n:Nat} (hr:OpsQ P n0 size W0 n ops l st1 st'):OpsQ P n0 size W0 n ops (k::l) st st':=by
 intro ρ a W Q hI hs hQ
 unfold opc at h
 split at h<;>try cases h
 next o ho=>
 split at h<;>try cases h
 next st2 h1=>
 split at h<;>cases h
 next hok=>
 rw[Bool.and_eq_true]at hok
 have hn0:=Nat.le_of_ble_eq_true hok.2
 rw[wpOpsIn_cons]
 refine aop1_sound (rd:=none) hc (fun _=>rfl) h1 ho hs.guard (hs.opV hI.gb) hs.defers (hI.pre hok.1) (fun ρ1 W1 v v' sx a1 hap he ht _ hd hv hpo=>?_) (fun v e=>by cases e)
 have hs1:StR P size ρ1 sx.env sx.dfs a1:=⟨by rw[he];unfold EnvR;rw[ht];exact (hs.env.mono hpo.le),by rw[ht];exact hs.size,hd⟩
 have hs2:=(aput_StR hap hs1 hv).2.2
 refine hr ρ1 _ W1 Q (hI.post hn0 hok.1 hpo (aop1_grow hc h1) rfl fun b o hb=>prn_get keep .o (fun o h=>by rw[Tr.get_e]at h;cases h) hb) ⟨ren_EnvR hs2.env hs2.size,hs2.size,hs2.defers⟩ fun ρ2 a2 W2 h1 h2 h3=>hQ ρ2 a2 W2 (hpo.le.trans h1) h2 h3
def opn (P:Program) (n0:Nat) (ops:Array Oper) (k:Nat) (st:St):Option (FuncId×Array Value×AS):=match ops[k]? with
 |some o=>match wnt ops o st.env with
  |true=>match eop P n0 st.env o st.s with
   |some (.enter (.func f) args,s)=>match okSs n0 st.s s&&Nat.ble n0 st.s.next with
    |true=>some (f,args,s)
    |false=>none
   |_=>none
  |false=>none
 |none=>none
def dstk (ops:Array Oper) (k:Nat):Option Tmp:=match ops[k]? with
 |some o=>o.dst
 |none=>none
theorem ops_call {ops:Array Oper} {k:Nat} {l:List Nat} {st st1 st':St} {f:FuncId} {args:Array Value} {s2:AS} {v:Value} {n:Nat} (h:opn P n0 ops k st=some (f,args,st.s)) (hc:CallSeg P n0 W0 f args st.s (.ret v) s2) (hp:aput size (dstk ops k) v {st with s:=s2}=some (.normal,st1)) (hr:OpsQ P n0 size W0 n ops l st1 st'):OpsQ P n0 size W0 n ops (k::l) st st':=by
 intro ρ a W Q hI hs hQ
 unfold opn at h
 split at h<;>try cases h
 next o ho=>
 have hdst:dstk ops k=o.dst:=by unfold dstk;rw[ho]
 rw[hdst]at hp
 split at h<;>try cases h
 next hw=>
 split at h<;>try cases h
 next f1 args1 s1 hop=>
 split at h<;>try cases h
 next hok=>
 rw[Bool.and_eq_true]at hok
 have hn0:=Nat.le_of_ble_eq_true hok.2
 rw[wpOpsIn_cons]
 unfold wpOpIn
 rw[ho]
 dsimp only
 rw[wnt_eq (ρ:=ρ) hs.guard,hw,if_pos rfl]
 refine⟨fun _ _=>trivial,?_⟩
 have hsem:Oper.semAt (fw none).round a.eval o=execOp a.eval o:=rfl
 rw[hsem]
 obtain⟨ρ1,W1,⟨args',hrun,hargs⟩,hpo⟩:=eop_sound hop (hs.opV hI.gb) (hI.pre hok.1)
 rw[hrun]
 have hI1:Inv P n0 W0 ρ1 st.s W1:=hI.post hn0 hok.1 hpo (eop_grow hop) rfl fun b o h=>h
 refine⟨fun h=>(by cases h),(hc _ ρ1 W1 args' hI1 hargs).mono fun e W2 he=>?_⟩
 obtain⟨ρ2,hl2,hI2,v',rfl,hv⟩:=he
 have hl:=hpo.le.trans hl2
 have hs1:StR P size ρ2 st.env st.dfs a:=hs.mono hl
 obtain⟨_,e2,hs2⟩:=aput_StR (st:={st with s:=s2}) hp hs1 hv
 exact hr ρ2 _ W2 Q (by rw[e2];exact hI2) hs2 fun ρ3 a3 W3 h1 h2 h3=>hQ ρ3 a3 W3 (hl.trans h1) h2 h3
theorem callSeg_body {call:ACall} (hc:CallOK P n0 call) (hm:P.follows .mixedOrders=true) {keep:List Nat} {f:FuncId} {fn:Func} {c:Code} {args:Array Value} {x:AXs} {s s':AS} {st:St} {r:CO}
  (hf:P.funcs[f]? =some fn) (hb:fn.body=some c) (h1:∀n,SegQ P n0 (args.size+(fn.ntmps-args.size)) W0 n c ⟨envOf args.toList 0 .o,s,[]⟩ x st) (hx:x= .normal∨x= .ret) (h2:segE P n0 call lf keep fn st=some (r,s')):CallSeg P n0 W0 f args s r s':=fun n _ _ _ hI ha=>seg_body hc hm hf hb (h1 n) hx h2 hI ha
end
end
end
def GG:GV:=⟨3,311,430,4⟩
end Go.Proofs.YtngglbakkedaiaaGreatDoor
namespace Go.Proofs.YtngglbakkedaiaaGreatDoor.HR
section
open Go.RowKit Go.Shelf
def OwnInts (w : World) (base : Nat) (v : Value) (l : List Int) : Prop := w.ownsRow base 3 1 v l.length (l.map (Value.int .i64))
theorem OwnInts.nil (w : World) (base : Nat) : OwnInts w base (.slice none 0 0) [] := ⟨rfl, .inl ⟨rfl, rfl⟩⟩
theorem heap_new (w : World) (o : Obj) : (w.alloc o).heap[w.heap.size]? = some o := by
  show (w.heap.push o)[w.heap.size]? = _; simp
theorem below_a1 (w : World) (o : Obj) : Below w.heap.size w (w.alloc o) := (Below.refl _ w).alloc (Nat.le_refl _) _
structure SlT (t e size bytes : Nat) : Prop where
  ht : Tryz.prog.underlying t = some (.slice e)
  hi : ∃ i z, Tryz.prog.info? e = some i ∧ i.zero = some z ∧ i.size = size ∧ i.bytes = bytes ∧ z.cells.size = size
  pos : 0 < size
theorem SlT.mk' {t e size bytes : Nat} {z : Value} (ht : Tryz.prog.underlying t = some (.slice e)) (h : (Tryz.prog.info? e).map (fun i => (i.zero, i.size, i.bytes)) = some (some z, size, bytes)) (hz : z.cells.size = size) (hp : 0 < size) : SlT t e size bytes := by
  obtain ⟨i0, hi, hz0, hz1, hz2⟩ := info_parts h
  exact ⟨ht, ⟨i0, z, hi, hz0, hz1, hz2, hz⟩, hp⟩
theorem slInt : SlT 22 3 1 8 := SlT.mk' (z := .int .i64 0) Tryz.underlying22 (by kernel_rfl) rfl (by decide)
theorem cell_of_block {w : World} {g : Nat} {c : Array Value} {t : TypeId} {fr : Nat × Nat} (h : w.heap[g]? = some (.cells c t fr)) (j : Nat) : w.cell? ⟨g, j, none⟩ = c[j]? := by
  simp [World.cell?, h]
theorem heap_old (w : World) (o : Obj) {k : Nat} {x : Obj} (h : w.heap[k]? = some x) : (w.alloc o).heap[k]? = some x := by
  rw [Below.heap_alloc w o k (Array.getElem?_eq_some_iff.1 h).1]; exact h
def SetAt (w : World) (b : Nat) (ks : List Value) : Prop :=
  ∃ es clock, w.heap[b]? = some (.map es clock) ∧ es.toList.map (·.key) = ks ∧ (∀ e ∈ es.toList, e.val = .agg #[] ∧ e.born < clock) ∧ (es.toList.map (·.born)).Nodup
theorem run_getMap {w : World} {b : Nat} {es : Array MapEntry} {clock : Nat} (h : w.heap[b]? = some (.map es clock)) : (getObj b).run Tryz.prog w = .ok (.map es clock) w := by
  simp [getObj, Sem.run, h]
def putB (w : World) (b : Nat) (o : Obj) : World := { w with heap := w.heap.setIfInBounds b o }
theorem putB_grown (w : World) (b : Nat) (o : Obj) : w.grownBy (putB w b o) (some b) :=
  ⟨rfl, rfl, rfl, by simp [putB], fun k hk hne => by simp only [putB]; rw [Array.getElem?_setIfInBounds_ne]; intro e; exact hne (by rw [e])⟩
theorem putB_at {w : World} {b : Nat} {o o' : Obj} (h : w.heap[b]? = some o) : (putB w b o').heap[b]? = some o' := by
  have := (Array.getElem?_eq_some_iff.1 h).1
  simp [putB, this]
theorem putB_size (w : World) (b : Nat) (o : Obj) : (putB w b o).heap.size = w.heap.size := by simp [putB]
abbrev I (x:Int):Value:= .int .i64 x
theorem iInj:∀x y:Int,I x=I y→x=y:=fun x y h=>by cases h;rfl
theorem nodup_map_inj {β γ : Type} {f : β → γ} : ∀ {l : List β}, (l.map f).Nodup → ∀ {x y : β}, x ∈ l → y ∈ l → f x = f y → x = y
  | [], _, _, _, hx, _, _ => by cases hx
  | a :: l, hn, x, y, hx, hy, e => by
    rw [List.map_cons, List.nodup_cons] at hn
    rcases List.mem_cons.1 hx with rfl | hx'
    · rcases List.mem_cons.1 hy with rfl | hy'
      · rfl
      · exact (hn.1 (by rw [e]; exact List.mem_map_of_mem hy')).elim
    · rcases List.mem_cons.1 hy with rfl | hy'
      · exact (hn.1 (by rw [← e]; exact List.mem_map_of_mem hx')).elim
      · exact nodup_map_inj hn.2 hx' hy' e
section
variable {α : Type} [DecidableEq α] {enc : α → Value}
def IterAt (enc : α → Value) (w : World) (r b : Nat) (ys left : List α) : Prop :=
  ∃ es clock seen, w.heap[b]? = some (.map es clock) ∧ es.toList.map (·.key) = ys.map enc ∧ (∀ e ∈ es.toList, e.val = .agg #[] ∧ e.born < clock) ∧ (es.toList.map (·.born)).Nodup ∧
    w.heap[r]? = some (.mapIter (some b) clock seen clock) ∧ (es.toList.filter (fun e => !seen.contains e.born)).map (·.key) = left.map enc
omit [DecidableEq α] in
theorem IterAt.set {w : World} {r b : Nat} {ys left : List α} (h : IterAt enc w r b ys left) : SetAt w b (ys.map enc) := by
  obtain ⟨es, clock, seen, h1, h2, h3, h4, _⟩ := h; exact ⟨es, clock, h1, h2, h3, h4⟩
omit [DecidableEq α] in
theorem IterAt.kept {w w' : World} {r b : Nat} {ys left : List α} (h : IterAt enc w r b ys left) (hb : w'.heap[b]? = w.heap[b]?) (hr : w'.heap[r]? = w.heap[r]?) : IterAt enc w' r b ys left := by
  obtain ⟨es, clock, seen, h1, h2, h3, h4, h5, h6⟩ := h; exact ⟨es, clock, seen, hb.trans h1, h2, h3, h4, hr.trans h5, h6⟩
omit [DecidableEq α] in
theorem run_rangeS {T K : TypeId} (hT : Tryz.prog.underlying T = some (.map K 287)) {w : World} {b : Nat} {ys : List α} (hs : SetAt w b (ys.map enc)) :
    ∃ w', (Instr.range T (.map (some b))).run Tryz.prog w = .ok (.pointer (some ⟨w.heap.size, 0, none⟩)) w' ∧ IterAt enc w' w.heap.size b ys ys ∧ w.grownBy w' none ∧ w'.heap.size = w.heap.size + 1 := by
  obtain ⟨es, clock, hb, hk, hv, hn⟩ := hs
  have hrun : (Instr.range T (.map (some b))).run Tryz.prog w = .ok (.pointer (some ⟨w.heap.size, 0, none⟩)) (w.alloc (.mapIter (some b) clock #[] clock)) := by
    unfold Instr.range
    simp only [Sem.run_bind, run_underlying hT, Result.andThen_ok, run_getMap hb, Sem.run_pure]
    rfl
  refine ⟨_, hrun, ⟨es, clock, #[], heap_old _ _ hb, hk, hv, hn, heap_new _ _, ?_⟩, ⟨rfl, rfl, rfl, by simp, fun k hk _ => Below.heap_alloc _ _ _ hk⟩, by simp⟩
  rw [List.filter_eq_self.2 (by simp)]; exact hk
omit [DecidableEq α] in
theorem map_filter_two {p : MapEntry → Bool} {q : α → Bool} : ∀ (l : List MapEntry) (m : List α), l.map (·.key) = m.map enc → (∀ x ∈ l, ∀ a, x.key = enc a → p x = q a) → (l.filter p).map (·.key) = (m.filter q).map enc
  | [], [], _, _ => rfl
  | x :: l, a :: m, h, hp => by
    simp only [List.map_cons, List.cons.injEq] at h
    have ih := map_filter_two l m h.2 (fun z hz b hb => hp z (List.mem_cons_of_mem _ hz) b hb)
    have hx := hp x List.mem_cons_self a h.1
    rw [List.filter_cons, List.filter_cons, hx]
    split
    · rw [List.map_cons, List.map_cons, ih, h.1]
    · exact ih
  | [], _ :: _, h, _ => by simp at h
  | _ :: _, [], h, _ => by simp at h
theorem nodup_map_enc {β γ : Type} {f : β → γ} (hf : ∀ x y, f x = f y → x = y) : ∀ {l : List β}, l.Nodup → (l.map f).Nodup
  | [], _ => by simp
  | a :: l, h => by
    rw [List.nodup_cons] at h
    rw [List.map_cons, List.nodup_cons]
    refine ⟨fun hm => ?_, nodup_map_enc hf h.2⟩
    obtain ⟨b, hb, e⟩ := List.mem_map.1 hm
    exact h.1 (hf _ _ e ▸ hb)
theorem filter_push {es : List MapEntry} {seen : Array Nat} {e : MapEntry} (hn : (es.map (·.born)).Nodup) (he : e ∈ es) (left : List α) (hl : (es.filter (fun e => !seen.contains e.born)).map (·.key) = left.map enc)
    (hinj : ∀ x y, enc x = enc y → x = y) (hleft : left.Nodup) (y : α) (hy : e.key = enc y) (hse : seen.contains e.born = false) :
    (es.filter (fun x => !(seen.push e.born).contains x.born)).map (·.key) = (left.erase y).map enc := by
  have h1 : es.filter (fun x => !(seen.push e.born).contains x.born) = (es.filter (fun x => !seen.contains x.born)).filter (fun x => decide (x.born ≠ e.born)) := by
    rw [List.filter_filter]
    apply List.filter_congr
    intro x _
    rw [Bool.eq_iff_iff]
    simp only [Array.contains_push, Bool.not_or, Bool.and_eq_true, Bool.not_eq_true', decide_eq_true_eq, beq_eq_false_iff_ne, ne_eq]
    exact and_comm
  rw [h1, hleft.erase_eq_filter]
  generalize hL : es.filter (fun x => !seen.contains x.born) = Lf at hl ⊢
  have hsub : ∀ x ∈ Lf, x ∈ es := fun x hx => by rw [← hL] at hx; exact (List.mem_filter.1 hx).1
  have heL : e ∈ Lf := by rw [← hL]; exact List.mem_filter.2 ⟨he, by simp only [hse]; rfl⟩
  clear hL h1
  have hkn : (Lf.map (·.key)).Nodup := by
    rw [hl]; exact nodup_map_enc hinj hleft
  refine map_filter_two Lf left hl (fun x hx a ha => ?_)
  rw [Bool.eq_iff_iff, decide_eq_true_eq, bne_iff_ne]
  constructor
  · rintro hb rfl
    exact hb (by rw [nodup_map_inj hkn hx heL (by rw [ha, hy])])
  · intro hay hb
    have := nodup_map_inj hn (hsub x hx) he hb
    subst this
    exact hay (hinj _ _ (by rw [← ha, ← hy]))
theorem run_nextS {w : World} {r b : Nat} {ys left : List α} (h : IterAt enc w r b ys left) (hinj : ∀ x y, enc x = enc y → x = y) (hleft : left.Nodup) (ty : TypeId) :
    (left = [] ∧ (Instr.next (.pointer (some ⟨r, 0, none⟩)) false ty).run Tryz.prog w = .ok (.tuple #[.bool false]) w) ∨
    (∃ y w', y ∈ left ∧ (Instr.next (.pointer (some ⟨r, 0, none⟩)) false ty).run Tryz.prog w = .ok (.tuple #[.bool true, enc y, .agg #[]]) w' ∧ IterAt enc w' r b ys (left.erase y) ∧ w.grownBy w' (some r) ∧ w'.heap.size = w.heap.size ∧
      (Instr.entry (.pointer (some ⟨r, 0, none⟩))).run Tryz.prog w' = .ok (.tuple #[enc y, .agg #[]]) w') := by
  obtain ⟨es, clock, seen, hb, hk, hv, hn, hr, hl⟩ := h
  have hg : (getObj r).run Tryz.prog w = .ok (.mapIter (some b) clock seen clock) w := by simp [getObj, Sem.run, hr]
  have hgb := run_getMap hb
  have hcond : (!seen.isEmpty && !es.isEmpty && es.all (fun e => decide (e.born ≥ clock))) = false := by
    cases hes : es.isEmpty with
    | true => simp
    | false =>
      have h0 : 0 < es.size := by rw [Array.isEmpty_eq_false_iff] at hes; exact Array.size_pos_iff.2 hes
      have : es.all (fun e => decide (e.born ≥ clock)) = false := by
        rw [Array.all_eq_false]
        refine ⟨0, h0, ?_⟩
        have := (hv es[0] (by simp)).2
        simp; omega
      simp [this]
  obtain ⟨Lf, hLf⟩ : ∃ Lf, es.filter (fun e => !seen.contains e.born) = Lf := ⟨_, rfl⟩
  have hLl : Lf.toList = es.toList.filter (fun e => !seen.contains e.born) := by rw [← hLf, Array.toList_filter]
  have hold : Lf.filter (fun e => decide (e.born < clock)) = Lf := by
    rw [Array.filter_eq_self]
    intro e he
    have : e ∈ es.toList := by rw [← Array.mem_toList_iff, hLl] at he; exact (List.mem_filter.1 he).1
    simpa using (hv e this).2
  have hnew : Lf.filter (fun e => decide (e.born ≥ clock)) = #[] := by
    rw [Array.filter_eq_empty_iff]
    intro e he
    have : e ∈ es.toList := by rw [← Array.mem_toList_iff, hLl] at he; exact (List.mem_filter.1 he).1
    have := (hv e this).2
    simp; omega
  have hch : ∀ n : Nat, 0 < n → ∃ i w1, (choose (.mapNext n)).run Tryz.prog w = .ok i w1 ∧ i < n ∧ w1.heap = w.heap ∧ w.grownBy w1 none := fun n hn0 => by
    by_cases h1 : n ≤ 1
    · exact ⟨0, w, by simp [choose, Sem.run, Question.forced, h1], hn0, rfl, ⟨rfl, rfl, rfl, Nat.le_refl _, fun _ _ _ => rfl⟩⟩
    · exact ⟨(w.tape w.drawn (.mapNext n)) % n, w.drew, by simp [Question.forced, h1, Question.cut], Nat.mod_lt _ hn0, rfl, ⟨rfl, rfl, rfl, Nat.le_refl _, fun _ _ _ => rfl⟩⟩
  unfold Instr.next
  simp only [Sem.run_bind, hg, hgb, Result.andThen_ok, hcond, hLf, hold, hnew, Bool.false_eq_true, if_false, Array.append_empty]
  by_cases hE : Lf.isEmpty = true
  · left
    have hL0 : Lf = #[] := by simpa using hE
    refine ⟨?_, ?_⟩
    · rw [← hLl, hL0] at hl; simpa using hl.symm
    · obtain ⟨i, w1, hc, hi, _, _⟩ := hch 1 (by decide)
      have hc1 : (choose (.mapNext 1)).run Tryz.prog w = .ok 0 w := by simp [choose, Sem.run, Question.forced]
      have hs1 : ((if (#[] : Array MapEntry).isEmpty = true then #[none] else #[]) ++ Array.map some (#[] : Array MapEntry)) = #[none] := by simp
      rw [hL0, hs1]
      show ((choose (.mapNext 1)).run Tryz.prog w).andThen _ = _
      rw [hc1]; rfl
  · right
    have hpos : 0 < Lf.size := by
      rcases Nat.eq_zero_or_pos Lf.size with h0 | h0
      · exact (hE (by simpa using h0)).elim
      · exact h0
    obtain ⟨i, w1, hc, hi, hh, hg1⟩ := hch Lf.size hpos
    have hmem : Lf[i] ∈ es.toList.filter (fun e => !seen.contains e.born) := by rw [← hLl]; simp
    obtain ⟨hmem1, hmem2⟩ := List.mem_filter.1 hmem
    obtain ⟨y, hyl, hy⟩ : ∃ y, y ∈ left ∧ enc y = Lf[i].key := by
      have : Lf[i].key ∈ left.map enc := by rw [← hl]; exact List.mem_map_of_mem hmem
      obtain ⟨y, h1, h2⟩ := List.mem_map.1 this; exact ⟨y, h1, h2⟩
    have hval := (hv _ hmem1).1
    have hr1 : w1.heap[r]? = some (.mapIter (some b) clock seen clock) := by rw [hh]; exact hr
    have hset : (setObj r (.mapIter (some b) clock (seen.push Lf[i].born) clock)).run Tryz.prog w1 = .ok () (putB w1 r (.mapIter (some b) clock (seen.push Lf[i].born) clock)) := by
      simp [setObj, Sem.run, hr1, putB]
    have hrb : r ≠ b := by rintro rfl; rw [hr] at hb; cases hb
    refine ⟨y, putB w1 r (.mapIter (some b) clock (seen.push Lf[i].born) clock), hyl, ?_, ?_, ?_, ?_, ?_⟩
    · have hs1 : ((if Lf.isEmpty = true then #[none] else #[]) ++ Array.map some Lf) = Array.map some Lf := by simp [hE]
      rw [hs1, Array.size_map, hc, Result.andThen_ok, Array.getElem?_map, Array.getElem?_eq_getElem hi]
      simp only [Option.map_some, Sem.run_bind, hset, Result.andThen_ok, Sem.run_pure, hval, hy]
    · refine ⟨es, clock, seen.push Lf[i].born, ?_, hk, hv, hn, putB_at hr1, ?_⟩
      · rw [(putB_grown w1 r _).block b (by rw [hh]; exact (Array.getElem?_eq_some_iff.1 hb).1) (by simpa using fun e => hrb e.symm), hh]; exact hb
      · exact filter_push hn hmem1 left hl hinj hleft y hy.symm (by simpa using hmem2)
    · refine ⟨hg1.os, hg1.tape, hg1.output, ?_, fun k hk hne => ?_⟩
      · rw [putB_size, hh]; exact Nat.le_refl _
      · rw [(putB_grown w1 r _).block k (by rw [hh]; exact hk) hne, hh]
    · rw [putB_size, hh]
    · have hb2 : (putB w1 r (.mapIter (some b) clock (seen.push Lf[i].born) clock)).heap[b]? = some (.map es clock) := by
        rw [(putB_grown w1 r _).block b (by rw [hh]; exact (Array.getElem?_eq_some_iff.1 hb).1) (by simpa using fun e => hrb e.symm), hh]; exact hb
      have hr2 := putB_at (o' := Obj.mapIter (some b) clock (seen.push Lf[i].born) clock) hr1
      generalize putB w1 r (.mapIter (some b) clock (seen.push Lf[i].born) clock) = W at hb2 hr2
      have hg2 : (getObj r).run Tryz.prog W = .ok (.mapIter (some b) clock (seen.push Lf[i].born) clock) W := by simp [getObj, Sem.run, hr2]
      have hfind : es.find? (fun e => e.born == Lf[i].born) = some Lf[i] := by
        rw [← Array.find?_toList]
        have h1 : ∃ x ∈ es.toList, (x.born == Lf[i].born) = true := ⟨_, hmem1, by simp⟩
        cases hf : es.toList.find? (fun e => e.born == Lf[i].born) with
        | none =>
          have := List.find?_eq_none.1 hf _ hmem1
          simp at this
        | some z =>
          have h2 := List.find?_some hf
          have h3 := List.mem_of_find?_eq_some hf
          rw [nodup_map_inj hn h3 hmem1 (by simpa using h2)]
      unfold Instr.entry
      simp only [Sem.run_bind, hg2, Result.andThen_ok, Array.back?_push, run_getMap hb2, bne_self_eq_false, Bool.false_eq_true, if_false, hfind, Sem.run_pure, hval, hy]
variable {K T : TypeId} (hT : Tryz.prog.underlying T = some (.map K 287))
variable {w : World} {ops : Array Oper} {rest : List Oper} {o : Oper} {a : Act} {Q : Exit → Act → World → Prop}
omit [DecidableEq α] in
include hT in
theorem wpList_rangeS (hgd : o.guard = none) (m : Operand) (hop : o.op = .range T m) (b : Nat) (ys : List α) (hm : a.eval m = .map (some b)) (hs : SetAt w b (ys.map enc))
    (h : ∀ w', IterAt enc w' w.heap.size b ys ys → w.grownBy w' none → w'.heap.size = w.heap.size + 1 → wpList Tryz.prog ops Q rest (a.put o.dst (.pointer (some ⟨w.heap.size, 0, none⟩))) w') : wpList Tryz.prog ops Q (o :: rest) a w := by
  refine wpList_plain hgd fun K' hK' => ?_
  obtain ⟨w', hrun, h1, h2, h3⟩ := run_rangeS (enc := enc) hT hs
  unfold Oper.wp
  simp [execOp, hop, hm, hrun, Result.andThen]
  exact hK' _ _ (h w' h1 h2 h3)
theorem wpList_nextS (hgd : o.guard = none) (m : Operand) (hop : o.op = .next m false) (r b : Nat) (ys left : List α) (hinj : ∀ x y, enc x = enc y → x = y) (hleft : left.Nodup) (hm : a.eval m = .pointer (some ⟨r, 0, none⟩)) (hs : IterAt enc w r b ys left)
    (h0 : left = [] → wpList Tryz.prog ops Q rest (a.put o.dst (.tuple #[.bool false])) w)
    (h : ∀ y w', y ∈ left → IterAt enc w' r b ys (left.erase y) → w.grownBy w' (some r) → w'.heap.size = w.heap.size →
      (Instr.entry (.pointer (some ⟨r, 0, none⟩))).run Tryz.prog w' = .ok (.tuple #[enc y, .agg #[]]) w' → wpList Tryz.prog ops Q rest (a.put o.dst (.tuple #[.bool true, enc y, .agg #[]])) w') : wpList Tryz.prog ops Q (o :: rest) a w := by
  refine wpList_plain hgd fun K' hK' => ?_
  rcases run_nextS hs hinj hleft o.type with ⟨hl, hrun⟩ | ⟨y, w', hy, hrun, h1, h2, h3, h4⟩
  · unfold Oper.wp
    simp [execOp, hop, hm, hrun, Result.andThen]
    exact hK' _ _ (h0 hl)
  · unfold Oper.wp
    simp [execOp, hop, hm, hrun, Result.andThen]
    exact hK' _ _ (h y w' hy h1 h2 h3 h4)
end
theorem wpList_putS {w:World} {ops:Array Oper} {rest:List Oper} {o:Oper} {a:Act} {Q:Exit→Act→World→Prop} {T:TypeId} (hT:Tryz.prog.underlying T=some (.map 3 287)) (hgd:o.guard=none) (m x v:Operand) (hop:o.op= .mapUpdate T m x v) (b:Nat) (ys:List Int) (y:Int) (hm:a.eval m= .map (some b)) (hx:a.eval x=I y) (hv:a.eval v= .agg #[]) (hs:SetAt w b (ys.map I))
    (h:∀w',SetAt w' b ((insL y ys).map I)→w.grownBy w' (some b)→w'.heap.size=w.heap.size→wpList Tryz.prog ops Q rest (a.put o.dst undef) w'):wpList Tryz.prog ops Q (o::rest) a w:=by
  refine wpList_plain hgd fun K' hK'=>?_
  obtain⟨es,cl,hb,hk⟩:=hs
  obtain⟨es',cl',hrun,hk'⟩:=set_put hT Tryz.underlying3 hb hk y
  unfold Oper.wp
  simp [execOp,hop,hm,hx,hv,hrun,Result.andThen]
  exact hK' _ _ (h (putB w b (.map es' cl')) ⟨es',cl',putB_at hb,hk'⟩ (putB_grown _ _ _) (putB_size _ _ _))
def insAll (l S : List Int) : List Int := l.foldl (fun s x => insL x s) S
theorem insAll_snoc (l : List Int) (x : Int) (S : List Int) : insAll (l ++ [x]) S = insL x (insAll l S) := by simp [insAll]
theorem grown_refl (w : World) (row : Option Nat) : w.grownBy w row := ⟨rfl, rfl, rfl, Nat.le_refl _, fun _ _ _ => rfl⟩
theorem grown_trans {a b c : World} {row : Option Nat} (h : a.grownBy b row) (k : b.grownBy c row) : a.grownBy c row :=
  ⟨k.os.trans h.os, k.tape.trans h.tape, k.output.trans h.output, Nat.le_trans h.size k.size, fun i hi hne => (k.block i (Nat.lt_of_lt_of_le hi h.size) hne).trans (h.block i hi hne)⟩
theorem grown_none {a b : World} (row : Option Nat) (h : a.grownBy b none) : a.grownBy b row := ⟨h.os, h.tape, h.output, h.size, fun i hi _ => h.block i hi (by simp)⟩
theorem SetAt.below {w w' : World} {b : Nat} {ks : List Value} (h : SetAt w b ks) (hb : w'.heap[b]? = w.heap[b]?) : SetAt w' b ks := by
  obtain ⟨es, clock, h1, h2⟩ := h; exact ⟨es, clock, hb.trans h1, h2⟩
theorem SetAt.lt {w : World} {b : Nat} {ks : List Value} (h : SetAt w b ks) : b < w.heap.size := by
  obtain ⟨es, clock, h1, h2⟩ := h; exact (Array.getElem?_eq_some_iff.1 h1).1
theorem SetAt.ext {w w' : World} {b : Nat} {ks : List Value} (h : SetAt w b ks) (hb : Below w.heap.size w w') : SetAt w' b ks := h.below (hb.block b h.lt)
theorem below_grown {w w' : World} (h : Below w.heap.size w w') (row : Option Nat) : w.grownBy w' row := ⟨h.os, h.tape, h.output, h.size, fun k hk _ => h.block k hk⟩
theorem grown_new {a b c : World} {row : Option Nat} {r : Nat} (h : a.grownBy b row) (k : b.grownBy c (some r)) (hr : a.heap.size ≤ r) : a.grownBy c row :=
  ⟨k.os.trans h.os, k.tape.trans h.tape, k.output.trans h.output, Nat.le_trans h.size k.size, fun i hi hne => (k.block i (Nat.lt_of_lt_of_le hi h.size) (by simp; omega)).trans (h.block i hi hne)⟩
def CopyPost (g : Nat) (D S : List Int) (w : World) (e : Ending) (w' : World) : Prop :=
  e = .returned (.tuple #[]) ∧ ∃ R : List Int, R.Perm S ∧ SetAt w' g ((insAll R D).map I) ∧ w.grownBy w' (some g)
set_option maxRecDepth 100000 in
set_option maxHeartbeats 1000000 in
theorem copy_any (g s : Nat) (D S : List Int) (w : World) (hd : SetAt w g (D.map I)) (hs : SetAt w s (S.map I)) (hgs : g ≠ s) (hS : S.Nodup) :
    Calls Tryz.prog 362 #[.map (some g), .map (some s)] w (CopyPost g D S w) := by
  go_enter Tryz.func362, Tryz.ntmps362
  go_wp2_with (first
    | (refine wpList_rangeS (enc := I) Tryz.underlying342 rfl _ rfl s S rfl hs ?_; intro w1 hi1 hg1 hz1; have HI := Lib.hid hi1; have HG := Lib.hid hg1; have HZ := Lib.hid hz1; clear hi1 hg1 hz1)
    | fail)
  have hlt : g < w.heap.size := hd.lt
  have hlts : s < w.heap.size := hs.lt
  have hd1 := Lib.hid (hd.below (HG.out.block g hd.lt (by simp)))
  go_frame
  go_loopg [4] S.length (fun gh _ wr => ∃ dn left : List Int, left.length = gh ∧ left.Nodup ∧ (dn ++ left).Perm S ∧ IterAt I wr w.heap.size s S left ∧ SetAt wr g ((insAll dn D).map I) ∧ w.grownBy wr (some g))
  case atStart => exact ⟨[], S, rfl, hS, List.Perm.refl _, HI.out, by simpa [insAll] using hd1.out, grown_none _ HG.out⟩
  case round =>
    obtain ⟨dn, left, hl, hnd, hp, hi, hsd, hg⟩ := hrel
    have HI2 := Lib.hid hi
    have HD := Lib.hid hsd
    have HG2 := Lib.hid hg
    have HL := Lib.hid hl
    have HP := Lib.hid hp
    have HN := Lib.hid hnd
    clear hi hsd hg hl hp hnd hd hs
    go_wp2_with (first
      | (refine wpList_nextS (enc := I) rfl _ rfl w.heap.size s S left iInj HN.out rfl HI2.out ?_ ?_)
      | fail)
    · intro hl0
      have HL0 := Lib.hid hl0
      clear hl0
      go_wp2
      go_end0
      refine ⟨rfl, dn, ?_, HD.out, HG2.out⟩
      have := HP.out
      rw [HL0.out, List.append_nil] at this
      exact this
    · intro y w2 hy hi2 hg2 hz2 hent
      have hne : w.heap.size ≠ g := by omega
      have HD2 : Hid (SetAt w2 g ((insAll dn D).map I)) := HD.out.below (hg2.block g HD.out.lt (by simpa using fun e => hne e.symm))
      have HI3 := Lib.hid hi2
      have HG3 := Lib.hid hg2
      have HZ3 := Lib.hid hz2
      have HY := Lib.hid hy
      clear hi2 hg2 hz2 hy
      go_wp2_with (first
        | (at_mapUpdate; refine wpList_putS Tryz.underlying342 rfl _ _ _ rfl g _ y rfl rfl rfl (HD2.out.ext (below_a1 _ _)) ?_; intro w3 hs3 hg3 hz3; have HS3 := Lib.hid hs3; have HG4 := Lib.hid hg3; have HZ4 := Lib.hid hz3; clear hs3 hg3 hz3))
      go_roundg ((left.erase y).length)
      case measure => rw [List.length_erase_of_mem HY.out, ← HL.out]; have := List.length_pos_of_mem HY.out; omega
      case rel =>
        refine ⟨dn ++ [y], left.erase y, rfl, HN.out.erase y, ?_, ?_, by rw [insAll_snoc]; exact HS3.out, ?_⟩
        · refine List.Perm.trans ?_ HP.out
          rw [List.append_assoc]
          exact List.Perm.append_left dn (List.perm_cons_erase HY.out).symm
        · have hb := below_a1 w2 (Obj.cells #[] 287)
          have hsz := HG2.out.size
          refine HI3.out.kept ?_ ?_
          · rw [HG4.out.block s (by simp; have := HZ3.out; omega) (by simpa using fun e => hgs e.symm)]
            exact hb.block s (by have := HZ3.out; omega)
          · have hr : w.heap.size < w2.heap.size := by have := HI3.out; obtain ⟨_, _, _, _, _, _, _, h, _⟩ := this; exact (Array.getElem?_eq_some_iff.1 h).1
            rw [HG4.out.block w.heap.size (by simp; omega) (by simpa using hne)]
            exact hb.block _ hr
        · exact grown_trans (grown_new HG2.out HG3.out (Nat.le_refl _)) (grown_trans (below_grown (below_a1 _ _) _) HG4.out)
end
end Go.Proofs.YtngglbakkedaiaaGreatDoor.HR
