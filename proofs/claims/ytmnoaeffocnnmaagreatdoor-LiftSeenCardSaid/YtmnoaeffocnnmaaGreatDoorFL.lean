import Derived.Test.YtmnoaeffocnnmaaGreatDoorEY
import Derived.Lib.Atoi
import Derived.Lib.AtoiErrMem
import Derived.Below
namespace Go.Proofs.YtmnoaeffocnnmaaGreatDoor
noncomputable section
def nzL {β:Type}:List UInt8→(List UInt8→β)→β
 |[],k=>k []
 |b::l,k=>sq b.toNat fun n=>nzL l fun l=>k (UInt8.ofNat n::l)
theorem nzL_eq {β:Type}:∀(l:List UInt8) (k:List UInt8→β),nzL l k=k l
 |[],_=>rfl
 |b::l,k=>by
  unfold nzL
  rw[sq_eq,nzL_eq l]
  simp
/-- a value's numbers and texts reckoned out -/
def nz1 {β:Type} (v:Value) (k:Value→β):β:=match v with
 |.int q (.ofNat n)=>sq n fun n=>k (.int q (.ofNat n))
 |.int q (.negSucc n)=>sq n fun n=>k (.int q (.negSucc n))
 |.string ⟨⟨l⟩⟩=>nzL l fun l=>k (.string ⟨⟨l⟩⟩)
 |.bool true=>k (.bool true)
 |.bool false=>k (.bool false)
 |v=>k v
theorem nz1_eq {β:Type} (v:Value) (k:Value→β):nz1 v k=k v:=by
 unfold nz1
 split<;>first|rw[sq_eq]|rw[nzL_eq]|rfl
def nzA {β:Type}:List Value→(List Value→β)→β
 |[],k=>k []
 |v::l,k=>nz1 v fun v=>nzA l fun l=>k (v::l)
theorem nzA_eq {β:Type}:∀(l:List Value) (k:List Value→β),nzA l k=k l
 |[],_=>rfl
 |v::l,k=>by
  unfold nzA
  rw[nz1_eq,nzA_eq l]
section
variable {P:Program} {n0:Nat} {lf:Nat}
/-- a call reckoned where nothing is: it answers the same wherever it is made -/
def pureV (P:Program) (ext:ACall→ACall) (lf k:Nat) (g:FuncId) (l:List Value):Option Value:=match acall P 0 ext lf k (.func g) ⟨l⟩ ⟨.o,0,0,0⟩ with
 |some (.ret v,_)=>match flat v with
  |true=>some v
  |false=>none
 |_=>none
def pureX (P:Program) (fs:Nat→Bool) (ext:ACall→ACall) (lf k:Nat):ACall→ACall:=fun _ f args s=>match f with
 |.func g=>match fs g with
  |true=>nzA args.toList fun l=>match l.all flat with
   |true=>match pureV P ext lf k g l with
    |some v=>some (.ret v,s)
    |none=>none
   |false=>none
  |false=>none
 |_=>none
theorem pureX_ok {ext:ACall→ACall} (hx:ExtOK P 0 ext) (hm:P.follows .mixedOrders=true) (fs:Nat→Bool) (k:Nat):ExtOK P n0 (pureX P fs ext lf k):=fun call _=>by
 have inv:∀{g:FuncId} {args:Array Value} {s:AS} {r:CO} {s':AS},pureX P fs ext lf k call (.func g) args s=some (r,s')→s'=s∧args.toList.all flat=true∧∃v s1,r= .ret v∧flat v=true∧acall P 0 ext lf k (.func g) args ⟨.o,0,0,0⟩=some (.ret v,s1):=fun {g args s r s'} h=>by
  unfold pureX at h
  dsimp only at h
  split at h<;>try cases h
  rw[nzA_eq]at h
  split at h<;>try cases h
  next hf=>
  split at h<;>cases h
  next v hv=>
  unfold pureV at hv
  split at hv<;>try cases hv
  next v2 s1 hc=>
  split at hv<;>cases hv
  next hfv=>
  exact⟨rfl,hf,_,s1,rfl,hfv,hc⟩
 refine⟨fun f args s r s' h=>?_,fun f args s r s' ρ W args' n h ha hp=>?_,fun l l' args s r s' ρ W args' h=>(by cases h)⟩
 ·cases f with
  |func g=>
   obtain⟨rfl,_⟩:=inv h
   exact Grow.refl _
  |_=>cases h
 ·obtain⟨rfl,hf,v,s1,rfl,hfv,hc⟩:=inv h
  have hargs:args'=args:=by
   apply Array.ext
   ·exact ha.1.symm
   ·intro i h1 h2
    exact flat_eq (List.all_eq_true.1 hf _ (by simp)) (ha.2 i _ _ (Array.getElem?_eq_getElem h2) (Array.getElem?_eq_getElem h1))
  subst hargs
  have hp0:Pre P 0 ⟨fun _=>.abs,fun _=>0⟩ ⟨.o,0,0,0⟩ s1 W:=⟨fun g hg=>absurd hg (Nat.not_lt_zero _),⟨fun b c x h=>(by cases h),fun b x h=>(by cases h)⟩,fun b _=>.inl rfl,fun b _ _=>rfl⟩
  refine ((acall_ok hx hm k).ok _ _ _ _ _ _ W args' n hc (AV.refl hf) hp0).mono fun e W' he=>?_
  obtain⟨ρ',hpo,v',rfl,hv⟩:=he
  have hgo:∀x,x<W.heap.size→W'.heap[x]? =W.heap[x]?:=fun x hx=>hpo.fr x hx fun b hb=>(by cases hb)
  refine⟨ρ,⟨PLe.refl _,fun b h1 h2=>absurd h1 h2,fun b x h1 h2=>(by rw[h1]at h2;cases h2),⟨hp.inj.inj,fun b x hb=>Nat.lt_of_lt_of_le (hp.inj.lt b x hb) hpo.sz⟩,fun b hb=>?_,fun x hx _=>hgo x hx,hpo.sz,hpo.os,hpo.tape,hpo.out,fun b x h1 h2=>(by rw[h1]at h2;cases h2)⟩,v',rfl,?_⟩
  ·rcases hb with hb|hb
   ·rcases hp.wr b hb with h|h|⟨x,o,o',h1,h2,h3,h4⟩
    ·exact .inl h
    ·exact .inr (.inl h)
    ·exact .inr (.inr ⟨x,o,o',h1,h2,(hgo x (hp.inj.lt b x h1)).trans h3,h4⟩)
   ·omega
  ·rw[flat_eq hfv hv]
   exact flat_VR hfv
/-- one or the other -/
def orX (a b:ACall→ACall):ACall→ACall:=fun call f args s=>match a call f args s with
 |some r=>some r
 |none=>b call f args s
theorem orX_ok {a b:ACall→ACall} (ha:ExtOK P n0 a) (hb:ExtOK P n0 b):ExtOK P n0 (orX a b):=fun call hc=>by
 have h1:=ha call hc
 have h2:=hb call hc
 refine⟨fun f args s r s' h=>?_,fun f args s r s' ρ W args' n h k hp=>?_,fun l l' args s r s' ρ W args' h k1 k2 hp=>?_⟩
 ·unfold orX at h
  split at h
  ·next hr=>cases h;exact h1.grow _ _ _ _ _ hr
  ·exact h2.grow _ _ _ _ _ h
 ·unfold orX at h
  split at h
  ·next hr=>cases h;exact h1.ok _ _ _ _ _ _ _ _ _ hr k hp
  ·exact h2.ok _ _ _ _ _ _ _ _ _ h k hp
 ·unfold orX at h
  split at h
  ·next hr=>cases h;exact h1.rnd _ _ _ _ _ _ _ _ _ hr k1 k2 hp
  ·exact h2.rnd _ _ _ _ _ _ _ _ _ h k1 k2 hp
/-- so deep -/
def extN (P:Program) (fs:Nat→Bool) (base:ACall→ACall) (lf k:Nat):Nat→ACall→ACall
 |0=>base
 |d+1=>orX (pureX P fs (extN P fs base lf k d) lf k) base
theorem extN_ok {base:ACall→ACall} (hb:∀n0,ExtOK P n0 base) (hm:P.follows .mixedOrders=true) (fs:Nat→Bool) (k:Nat):∀d n0,ExtOK P n0 (extN P fs base lf k d)
 |0,n0=>hb n0
 |d+1,n0=>orX_ok (pureX_ok (extN_ok hb hm fs k d 0) hm fs k) (hb n0)
end
end
end Go.Proofs.YtmnoaeffocnnmaaGreatDoor

namespace Go.Proofs.YtmnoaeffocnnmaaGreatDoor
open Go.RowKit (Below)
noncomputable section
/-- a variable that the call finds: its number, the type of its cells, and of what lies in it -/
structure GV where
 g:Nat
 t:TypeId
 v:TypeId
 n0:Nat
/-- where nothing is but this variable, which holds a pointer that nobody follows -/
def gst (G:GV):AS:=⟨Tr.set .o G.g (some (.cells #[.iface G.v (.pointer (some ⟨G.n0,0,none⟩))] G.t)),G.n0+1,0,0⟩
def isG (G:GV) (s:AS):Bool:=match s.heap.get G.g with
 |some (.cells ⟨[.iface v (.pointer (some ⟨_,0,none⟩))]⟩ t _)=>Nat.beq v G.v&&Nat.beq t G.t
 |_=>false
/-- the variable lies so -/
def GIn (G:GV) (W:World):Prop:=∃c' b,W.heap[G.g]? =some (.cells c' G.t (0,0))∧c'[0]? =some (.iface G.v (.pointer (some b)))
def gpm (G:GV) (cap:Nat→Nat):PM:=⟨fun b=>if b=G.g then .live G.g else if b≤G.n0 then .dead else .abs,cap⟩
section
variable {P:Program} {n0 lf:Nat}
theorem gpm_pre {G:GV} (hG:G.g<G.n0) {W:World} (h:GIn G W) {cap:Nat→Nat} (hcap:∀o',W.heap[G.g]? =some o'→cap G.g=ocap P o') (s1:AS):Pre P G.n0 (gpm G cap) (gst G) s1 W:=by
 obtain⟨c',b,h1,h2⟩:=h
 have hlt:G.g<W.heap.size:=by
  rcases Nat.lt_or_ge G.g W.heap.size with h|h
  ·exact h
  ·rw[Array.getElem?_eq_none h]at h1;cases h1
 refine⟨fun g hg=>?_,⟨fun x y z k1 k2=>?_,fun x z k=>?_⟩,fun x _=>?_,fun x k1 _=>?_⟩
 ·by_cases e:g=G.g
  ·exact .inr (by simp only [gpm,e,if_true])
  ·exact .inl (by simp only [gpm,if_neg e];rw[if_pos (by omega)])
 ·have key:∀x,(gpm G cap) x= .live z→x=G.g:=fun x k=>by
   simp only [gpm]at k
   split at k
   ·assumption
   ·split at k<;>cases k
  rw[key x k1,key y k2]
 ·simp only [gpm]at k
  split at k
  ·cases k;exact hlt
  ·split at k<;>cases k
 ·by_cases e:x=G.g
  ·subst e
   refine .inr (.inr ⟨_,_,_,by simp only [gpm,if_true],by unfold gst;simp only[Tr.get_set,if_true];rfl,h1,.cells _ ?_ (fun i v v' hi hi'=>?_),hcap _ h1⟩)
   ·have:=(Array.getElem?_eq_some_iff.1 h2).1
    show 1≤c'.size
    omega
   ·cases i with
    |zero=>
     rw[h2]at hi'
     cases hi'
     have:v= .iface G.v (.pointer (some ⟨G.n0,0,none⟩)):=by simpa using hi.symm
     subst this
     have hd:(gpm G cap) G.n0= .dead:=by
      show (if G.n0=G.g then Pl.live G.g else if G.n0≤G.n0 then Pl.dead else .abs)= .dead
      rw[if_neg (by omega),if_pos (Nat.le_refl _)]
     exact .iface _ (.ptr ⟨.inl hd,.inl hd⟩)
    |succ i=>simp at hi
  ·by_cases e2:x≤G.n0
   ·exact .inr (.inl ⟨by simp only [gpm,if_neg e,if_pos e2],by unfold gst;simp only[Tr.get_set,if_neg e];exact Tr.get_e x⟩)
   ·exact .inl (by simp only [gpm,if_neg e,if_neg e2])
 ·have k1:G.n0+1≤x:=k1
  simp only [gpm]
  rw[if_neg (by omega),if_neg (by omega)]
/-- what an abstract memory says of the variable -/
theorem isG_GIn {G:GV} (hG:G.g<n0) {ρ:PM} {s s':AS} {W:World} (h:isG G s=true) (hp:Pre P n0 ρ s s' W) (ht:s'.tch G.g):ρ G.g= .live G.g∧GIn G W∧∀o',W.heap[G.g]? =some o'→ρ.cap G.g=ocap P o':=by
 unfold isG at h
 split at h
 ·rename_i v q t fz hg
  rw[Bool.and_eq_true]at h
  have e1:=Nat.eq_of_beq_eq_true h.1;have e2:=Nat.eq_of_beq_eq_true h.2
  subst e1;subst e2
  obtain⟨hl,o',ho',hor,hc⟩:=BR.live hp.wr (hp.gb G.g hG) ht hg
  cases hor with
  |cells _ hz hcc=>
   rename_i c'
   refine⟨hl,?_,fun o2 h2=>by rw[ho']at h2;cases h2;exact hc⟩
   have hz:1≤c'.size:=hz
   have h0:=hcc 0 _ _ (by rfl) (Array.getElem?_eq_getElem (by omega))
   generalize hw:c'[0]=w at h0
   cases h0 with
   |iface _ h0=>
    cases h0 with
    |ptr hA=>
     rename_i ad
     exact⟨c',ad,ho',by rw[Array.getElem?_eq_getElem (by omega),hw]⟩
 ·cases h
/-- a world that has only grown -/
theorem post_more {ρ:PM} {s s':AS} {W W':World} (hb:Below W.heap.size W W') (hn:s'.next=s.next) (hh:s'.heap=s.heap) (hp:Pre P n0 ρ s s' W):Post P ρ s s' W ρ W':=by
 refine⟨PLe.refl _,fun b h1 h2=>absurd h1 h2,fun b x h1 h2=>(by rw[h1]at h2;cases h2),⟨hp.inj.inj,fun b x hb'=>Nat.lt_of_lt_of_le (hp.inj.lt b x hb') hb.size⟩,fun b hb'=>?_,fun x hx _=>hb.block x hx,hb.size,hb.os,hb.tape,hb.output,fun b x h1 h2=>(by rw[h1]at h2;cases h2)⟩
 rcases hb' with hb'|hb'
 ·rw[hh]
  rcases hp.wr b hb' with h|h|⟨x,o,o',h1,h2,h3,h4⟩
  ·exact .inl h
  ·exact .inr (.inl h)
  ·exact .inr (.inr ⟨x,o,o',h1,h2,(hb.block x (hp.inj.lt b x h1)).trans h3,h4⟩)
 ·rw[hn]at hb';omega
/-- .. by a block that nobody reads -/
theorem post_dead {ρ:PM} {s:AS} {W W':World} {m:Nat} (hb:Below W.heap.size W W') (hz:s.heap.get s.next=none) (hp:Pre P n0 ρ s {s with next:=s.next+1,rd:=m} W):
  Post P ρ s {s with next:=s.next+1,rd:=m} W ⟨fun b=>if b=s.next then .dead else ρ b,ρ.cap⟩ W'∧(⟨fun b=>if b=s.next then Pl.dead else ρ b,ρ.cap⟩:PM) s.next= .dead:=by
 have hab:ρ s.next= .abs:=hp.fresh _ (Nat.le_refl _) (by show s.next<s.next+1;omega)
 have key:∀c y,(if c=s.next then Pl.dead else ρ c)= .live y→ρ c= .live y:=fun c y h=>by
  split at h
  ·cases h
  ·exact h
 have hle:PLe ρ ⟨fun b=>if b=s.next then .dead else ρ b,ρ.cap⟩:=by
  refine⟨fun c=>?_,fun _ _=>rfl⟩
  by_cases e:c=s.next
  ·exact .inl (e▸hab)
  ·simp only[if_neg e];exact (PLe.refl ρ).at_ c
 refine⟨⟨hle,fun c h1 h2=>?_,fun c x h1 h2=>?_,⟨fun c d x h1 h2=>hp.inj.inj c d x (key c x h1) (key d x h2),fun c x h1=>Nat.lt_of_lt_of_le (hp.inj.lt c x (key c x h1)) hb.size⟩,fun c hc=>?_,fun x hx _=>hb.block x hx,hb.size,hb.os,hb.tape,hb.output,fun c x h1 h2=>(by rw[key c x h2]at h1;cases h1)⟩,by simp⟩
 ·by_cases e:c=s.next
  ·subst e;exact⟨Nat.le_refl _,Nat.lt_succ_self _⟩
  ·simp only[if_neg e]at h2;exact absurd h1 h2
 ·by_cases e:c=s.next
  ·subst e;rw[hab]at h1;cases h1
  ·simp only[if_neg e]at h2;rw[h1]at h2;cases h2
 ·by_cases e:c=s.next
  ·subst e;exact .inr (.inl ⟨by simp,hz⟩)
  ·have hc2:AS.tch {s with next:=s.next+1,rd:=m} c:=by
    rcases hc with h|h
    ·exact h
    ·have h2:c<s.next+1:=h.2
     have:=h.1
     omega
   simp only[if_neg e]
   rcases hp.wr c hc2 with h|h|⟨x,o,o',h1,h2,h3,h4,h5⟩
   ·exact .inl h
   ·exact .inr (.inl h)
   ·exact .inr (.inr ⟨x,o,o',h1,h2,(hb.block x (hp.inj.lt c x h1)).trans h3,h4.mono hle,h5⟩)
/-- what is known of strconv.Atoi -/
structure AtoiLaw (P:Program) (G:GV) (fa eT bT:Nat):Prop where
 ok:∀(s:ByteArray) (n:Int),s.size≤18→Go.Lib.atoi s.data.toList=some n→∀w:World,Calls P fa #[.string s] w fun e w'=>e= .returned (.tuple #[.int .i64 n,.nilIface])∧∃t,w'=Go.Lib.bytesWorld w bT t
 err:∀s:ByteArray,s.size≤18→Go.Lib.atoi s.data.toList=none→∀w:World,∀te pe,w.cell? ⟨G.g,0,none⟩=some (.iface te pe)→Calls P fa #[.string s] w fun e w'=>∃N,e= .returned (.tuple #[.int .i64 0,.iface eT (.pointer (some ⟨N,0,none⟩))])∧Below w.heap.size w w'
def dgt (b:UInt8):Nat:=b.toNat-48
def isDg:List UInt8→Bool
 |[]=>true
 |b::r=>match Nat.ble 48 b.toNat&&Nat.ble b.toNat 57 with
  |true=>isDg r
  |false=>false
def dec10:List UInt8→Nat→Nat
 |[],n=>n
 |b::r,n=>sq (n*10+(b.toNat-48)) fun m=>dec10 r m
/-- a quick Atoi -/
def atoiQ:List UInt8→Option Int
 |[]=>none
 |b::r=>match Nat.beq b.toNat 45 with
  |true=>match r with
   |[]=>none
   |_=>match isDg r with
    |true=>some (-(.ofNat (dec10 r 0)))
    |false=>none
  |false=>match Nat.beq b.toNat 43 with
   |true=>match r with
    |[]=>none
    |_=>match isDg r with
     |true=>some (.ofNat (dec10 r 0))
     |false=>none
   |false=>match isDg (b::r) with
    |true=>some (.ofNat (dec10 (b::r) 0))
    |false=>none
theorem decFrom_eq:∀(l:List UInt8) (n:Nat),Go.Lib.decFrom n l=if isDg l then some (dec10 l n) else none
 |[],n=>rfl
 |b::r,n=>by
  unfold Go.Lib.decFrom isDg dec10 Go.Lib.digitVal
  rw[sq_eq]
  cases h:Nat.ble 48 b.toNat&&Nat.ble b.toNat 57 with
  |true=>
   rw[Bool.and_eq_true]at h
   rw[if_pos ⟨Nat.le_of_ble_eq_true h.1,Nat.le_of_ble_eq_true h.2⟩]
   dsimp only
   exact decFrom_eq r _
  |false=>
   rw[if_neg (fun k=>by rw[Nat.ble_eq_true_of_le k.1,Nat.ble_eq_true_of_le k.2]at h;cases h)]
   rfl
theorem atoiQ_eq (l:List UInt8):Go.Lib.atoi l=atoiQ l:=by
 cases l with
 |nil=>rfl
 |cons b r=>
  unfold Go.Lib.atoi atoiQ
  have hb:∀k:UInt8,(b==k)=Nat.beq b.toNat k.toNat:=fun k=>by
   by_cases e:b=k
   ·subst e;rw[beq_self_eq_true,Nat.beq_refl]
   ·rw[beq_eq_false_iff_ne.2 e,nbF (fun h=>e (UInt8.toNat_inj.1 h))]
  have h1:=hb 45;have h2:=hb 43
  have e1:(45:UInt8).toNat=45:=rfl
  have e2:(43:UInt8).toNat=43:=rfl
  rw[e1]at h1;rw[e2]at h2
  have hd:∀r:List UInt8,Go.Lib.decNat r=match r with|[]=>none|_=>if isDg r then some (dec10 r 0) else none:=fun r=>by
   cases r with
   |nil=>rfl
   |cons c r=>
    unfold Go.Lib.decNat
    simp only [List.isEmpty_cons,Bool.false_eq_true,if_false]
    exact decFrom_eq _ _
  simp only[h1,h2,hd]
  cases Nat.beq b.toNat 45 with
  |true=>
   cases r with
   |nil=>rfl
   |cons c r=>cases h:isDg (c::r)<;>rfl
  |false=>
   cases Nat.beq b.toNat 43 with
   |true=>
    cases r with
    |nil=>rfl
    |cons c r=>cases h:isDg (c::r)<;>rfl
   |false=>cases h:isDg (b::r)<;>rfl
/-- strconv.Atoi, as it is told -/
def atoiX (G:GV) (fa eT:Nat):ACall→ACall:=fun _ f args s=>match f with
 |.func g=>match Nat.beq g fa with
  |true=>match args.toList with
   |[.string ⟨⟨l⟩⟩]=>match Nat.ble l.length 18 with
    |true=>match atoiQ l with
     |some n=>some (.ret (.tuple #[.int .i64 n,.nilIface]),s)
     |none=>match isG G s with
      |true=>match s.heap.get s.next with
       |none=>sq (s.next+1) fun nx=>sq (s.rd|||bit G.g) fun rd=>some (.ret (.tuple #[.int .i64 0,.iface eT (.pointer (some ⟨s.next,0,none⟩))]),{s with next:=nx,rd:=rd})
       |some _=>none
      |false=>none
    |false=>none
   |_=>none
  |false=>none
 |_=>none
theorem atoiX_ok {G:GV} (hG:G.g<n0) {fa eT bT:Nat} (hA:AtoiLaw P G fa eT bT):ExtOK P n0 (atoiX G fa eT):=fun call _=>by
 refine⟨fun f args s r s' h=>?_,fun f args s r s' ρ W args' n h ha hp=>?_,fun l l' args s r s' ρ W args' h=>(by cases h)⟩
 ·unfold atoiX at h
  split at h<;>try cases h
  split at h<;>try cases h
  split at h<;>try cases h
  split at h<;>try cases h
  split at h
  ·cases h;exact Grow.refl _
  ·split at h<;>try cases h
   split at h<;>try cases h
   rw[sq_eq,sq_eq]at h
   cases h
   exact⟨Nat.le_succ _,fun b h=>or_l h,fun b h=>h,fun b _ _=>rfl⟩
 ·unfold atoiX at h
  dsimp only at h
  split at h<;>try cases h
  next hf=>
  have hf:f=fa:=Nat.eq_of_beq_eq_true hf
  subst hf
  split at h<;>try cases h
  next l hargs=>
  have hargs:args= #[.string ⟨⟨l⟩⟩]:=by rw[←Array.toArray_toList (xs:=args),hargs]
  subst hargs
  have hargs':args'= #[.string ⟨⟨l⟩⟩]:=by
   apply Array.ext
   ·exact ha.1.symm
   ·intro i h1 h2
    have hi:i=0:=by
     have:i<1:=h2
     omega
    subst hi
    have:=ha.2 0 _ _ (Array.getElem?_eq_getElem h2) (Array.getElem?_eq_getElem h1)
    generalize args'[0]=w at this
    cases this
    rfl
  subst hargs'
  split at h<;>try cases h
  next hl=>
  have hl:(⟨⟨l⟩⟩:ByteArray).size≤18:=Nat.le_of_ble_eq_true hl
  split at h
  ·next n hn=>
   cases h
   refine (callsIn_wide.2 (hA.ok ⟨⟨l⟩⟩ n hl ((atoiQ_eq l).trans hn) W)).mono fun e W' he=>?_
   obtain⟨rfl,t,rfl⟩:=he
   refine⟨ρ,post_more (Go.Lib.bytesWorld_below W _ t) rfl rfl hp,_,rfl,flat_VR rfl⟩
  ·next hn=>
   split at h<;>try cases h
   next hg=>
   split at h<;>try cases h
   next hz=>
   rw[sq_eq,sq_eq]at h
   cases h
   obtain⟨_,⟨c',b,k1,k2⟩,_⟩:=isG_GIn hG hg hp (.inl (bit_self _ _))
   refine (callsIn_wide.2 (hA.err ⟨⟨l⟩⟩ hl ((atoiQ_eq l).trans hn) W _ _ (by unfold World.cell?;rw[k1];exact k2))).mono fun e W' he=>?_
   obtain⟨N,rfl,hb⟩:=he
   obtain⟨h1,h2⟩:=post_dead hb hz hp
   refine⟨_,h1,_,rfl,.tuple rfl fun i v v' hi hi'=>?_⟩
   have hi2:i<2:=(Array.getElem?_eq_some_iff.1 hi).1
   rcases (show i=0∨i=1 by omega) with e|e
   ·subst e;cases hi;cases hi';exact .int _ _
   ·subst e;cases hi;cases hi';exact .iface _ (.ptr (AR.mk (.inl h2) rfl rfl))
/-- a call with flat arguments reckoned where nothing is but the variable -/
def pureVG (P:Program) (G:GV) (ext:ACall→ACall) (lf k:Nat) (g:FuncId) (l:List Value):Option Value:=match acall P G.n0 ext lf k (.func g) ⟨l⟩ (gst G) with
 |some (.ret v,s)=>match flat v&&!s.wr.testBit G.g with
  |true=>some v
  |false=>none
 |_=>none
def pureG (P:Program) (G:GV) (fs:Nat→Bool) (ext:ACall→ACall) (lf k:Nat):ACall→ACall:=fun _ f args s=>match f with
 |.func g=>match fs g with
  |true=>nzA args.toList fun l=>match l.all flat&&isG G s with
   |true=>match pureVG P G ext lf k g l with
    |some v=>sq (s.rd|||bit G.g) fun rd=>some (.ret v,{s with rd:=rd})
    |none=>none
   |false=>none
  |false=>none
 |_=>none
theorem pureG_ok {G:GV} (hGn:G.g<G.n0) (hG:G.g<n0) {ext:ACall→ACall} (hx:ExtOK P G.n0 ext) (hm:P.follows .mixedOrders=true) (fs:Nat→Bool) (k:Nat):ExtOK P n0 (pureG P G fs ext lf k):=fun call _=>by
 have inv:∀{g:FuncId} {args:Array Value} {s:AS} {r:CO} {s':AS},pureG P G fs ext lf k call (.func g) args s=some (r,s')→s'={s with rd:=s.rd|||bit G.g}∧args.toList.all flat=true∧isG G s=true∧∃v s1,r= .ret v∧flat v=true∧s1.wr.testBit G.g=false∧acall P G.n0 ext lf k (.func g) args (gst G)=some (.ret v,s1):=fun {g args s r s'} h=>by
  unfold pureG at h
  dsimp only at h
  split at h<;>try cases h
  rw[nzA_eq]at h
  split at h<;>try cases h
  next hf=>
  rw[Bool.and_eq_true]at hf
  split at h<;>try cases h
  next v hv=>
  rw[sq_eq]at h
  cases h
  unfold pureVG at hv
  split at hv<;>try cases hv
  next v2 s1 hc=>
  split at hv<;>cases hv
  next hfv=>
  rw[Bool.and_eq_true]at hfv
  exact⟨rfl,hf.1,hf.2,_,s1,rfl,hfv.1,by simpa using hfv.2,hc⟩
 refine⟨fun f args s r s' h=>?_,fun f args s r s' ρ W args' n h ha hp=>?_,fun l l' args s r s' ρ W args' h=>(by cases h)⟩
 ·cases f with
  |func g=>
   obtain⟨rfl,_⟩:=inv h
   exact grow_rd s _
  |_=>cases h
 ·obtain⟨rfl,hf,hg,v,s1,rfl,hfv,hwr,hc⟩:=inv h
  have hargs:args'=args:=by
   apply Array.ext
   ·exact ha.1.symm
   ·intro i h1 h2
    exact flat_eq (List.all_eq_true.1 hf _ (by simp)) (ha.2 i _ _ (Array.getElem?_eq_getElem h2) (Array.getElem?_eq_getElem h1))
  subst hargs
  obtain⟨_,hgi,hcap⟩:=isG_GIn hG hg hp (.inl (bit_self _ _))
  refine ((acall_ok hx hm k).ok _ _ _ _ _ _ W args' n hc (AV.refl hf) (gpm_pre (cap:=ρ.cap) hGn hgi hcap s1)).mono fun e W' he=>?_
  obtain⟨ρ',hpo,v',rfl,hv⟩:=he
  have hgo:∀x,x<W.heap.size→W'.heap[x]? =W.heap[x]?:=fun x hx=>hpo.fr x hx fun b hb=>by
   simp only [gpm]at hb
   split at hb
   ·rename_i e;rw[e];exact hwr
   ·split at hb<;>cases hb
  refine⟨ρ,post_more ⟨hpo.os,hpo.tape,hpo.out,hpo.sz,hgo⟩ rfl rfl hp,v',rfl,?_⟩
  rw[flat_eq hfv hv]
  exact flat_VR hfv
/-- so deep -/
def extG (P:Program) (G:GV) (fs:Nat→Bool) (base:ACall→ACall) (lf k:Nat):Nat→ACall→ACall
 |0=>base
 |d+1=>orX (pureG P G fs (extG P G fs base lf k d) lf k) base
theorem extG_ok {G:GV} (hGn:G.g<G.n0) {base:ACall→ACall} (hb:ExtOK P G.n0 base) (hm:P.follows .mixedOrders=true) (fs:Nat→Bool) (k:Nat):∀d,ExtOK P G.n0 (extG P G fs base lf k d)
 |0=>hb
 |d+1=>orX_ok (pureG_ok hGn hGn (extG_ok hGn hb hm fs k d) hm fs k) hb
end
end
end Go.Proofs.YtmnoaeffocnnmaaGreatDoor

namespace Go.Proofs.YtmnoaeffocnnmaaGreatDoor
open Go.RowKit (Below)
noncomputable section
/-- what holds between two parts of a body -/
structure Inv (P:Program) (n0:Nat) (W0:World) (ρ:PM) (s:AS) (W:World):Prop where
 gb:GB ρ n0
 inj:Inj ρ W
 wr:∀b o,s.heap.get b=some o→ρ b= .abs∨∃x o',ρ b= .live x∧W.heap[x]? =some o'∧OR ρ o o'∧ρ.cap b=ocap P o'
 fresh:∀b,s.next≤b→ρ b= .abs
 gr:W0.grownBy W none
 new:∀b x,n0≤b→ρ b= .live x→W0.heap.size≤x
/-- only what is there was touched, and no variable written -/
def okS (n0:Nat) (s s':AS):Bool:=(List.range s.next).all fun b=>(!(s'.rd|||s'.wr).testBit b)||((s.heap.get b).isSome&&(Nat.ble n0 b||!s'.wr.testBit b))
def prn (keep:List Nat) (s:AS):AS:=⟨keep.foldl (fun t b=>t.set b (s.heap.get b)) .o,s.next,0,0⟩
def ren (size:Nat) (e:Tr Value):Tr Value:=(List.range size).foldl (fun t b=>match e.get b with|some v=>t.set b (some v)|none=>t) .o
theorem prn_get {s:AS} {b:Nat} {o:Obj}:∀(keep:List Nat) (t:Tr Obj),(∀o,t.get b=some o→s.heap.get b=some o)→(keep.foldl (fun t b=>t.set b (s.heap.get b)) t).get b=some o→s.heap.get b=some o
 |[],_,ht,h=>ht o h
 |k::r,t,ht,h=>prn_get r _ (fun o h=>by
  rw[Tr.get_set]at h
  split at h
  ·rename_i e;subst e;exact h
  ·exact ht o h) h
theorem ren_get {e:Tr Value} {b:Nat}:∀(l:List Nat) (t:Tr Value),(l.foldl (fun t b=>match e.get b with|some v=>t.set b (some v)|none=>t) t).get b=if b∈l then (e.get b).or (t.get b) else t.get b
 |[],t=>by simp
 |k::r,t=>by
  rw[List.foldl_cons,ren_get r]
  have h1:(match e.get k with|some v=>t.set k (some v)|none=>t).get b=if b=k then (e.get b).or (t.get b) else t.get b:=by
   cases hk:e.get k with
   |none=>
    dsimp only
    split
    ·rename_i h;subst h;rw[hk];rfl
    ·rfl
   |some v=>
    dsimp only
    rw[Tr.get_set]
    split
    ·rename_i h;subst h;rw[hk];rfl
    ·rfl
  rw[h1]
  by_cases hb:b=k
  ·subst hb
   simp only [List.mem_cons,true_or,if_true]
   cases e.get b<;>simp
  ·simp only [List.mem_cons,hb,false_or,if_false]
section
variable {P:Program} {n0 lf size:Nat} {W0:World}
theorem okS_at {s s':AS} (h:okS n0 s s'=true) {b:Nat} (hb:b<s.next):(s'.tch b→∃o,s.heap.get b=some o)∧(b<n0→s'.wr.testBit b=false):=by
 have h:=List.all_eq_true.1 h b (List.mem_range.2 hb)
 rw[Bool.or_eq_true,Bool.and_eq_true,Bool.or_eq_true]at h
 have ht:s'.tch b→(s'.rd|||s'.wr).testBit b=true:=fun k=>by
  rw[Nat.testBit_or]
  rcases k with k|k<;>simp [k]
 refine⟨fun k=>?_,fun k=>?_⟩
 ·rcases h with h|h
  ·rw[ht k]at h;cases h
  ·exact Option.isSome_iff_exists.1 h.1
 ·cases hw:s'.wr.testBit b with
  |false=>rfl
  |true=>
   rcases h with h|⟨_,h|h⟩
   ·rw[ht (.inr hw)]at h;cases h
   ·have:=Nat.le_of_ble_eq_true h;omega
   ·rw[hw]at h;cases h
theorem Inv.pre {ρ:PM} {s s':AS} {W:World} (h:Inv P n0 W0 ρ s W) (ho:okS n0 s s'=true):Pre P n0 ρ s s' W:=by
 refine⟨h.gb,h.inj,fun b hb=>?_,fun b h1 _=>h.fresh b h1⟩
 rcases Nat.lt_or_ge b s.next with hl|hl
 ·obtain⟨o,hg⟩:=(okS_at ho hl).1 hb
  rcases h.wr b o hg with k|⟨x,o',k1,k2,k3,k4⟩
  ·exact .inl k
  ·exact .inr (.inr ⟨x,o,o',k1,hg,k2,k3,k4⟩)
 ·exact .inl (h.fresh b hl)
theorem Inv.post {ρ ρ':PM} {s s' s'':AS} {W W':World} (hn0:n0≤s.next) (h:Inv P n0 W0 ρ s W) (ho:okS n0 s s'=true) (hp:Post P ρ s s' W ρ' W') (g:Grow s s') (hn:s''.next=s'.next) (hs:∀b o,s''.heap.get b=some o→s'.heap.get b=some o):Inv P n0 W0 ρ' s'' W':=by
 have hwr:∀b x,x<W0.heap.size→ρ b= .live x→s'.wr.testBit b=false:=fun b x hx hb=>by
  rcases Nat.lt_or_ge b n0 with k|k
  ·exact (okS_at ho (Nat.lt_of_lt_of_le k hn0)).2 k
  ·have:=h.new b x k hb;omega
 obtain⟨g1,g2,g3,g4,g5⟩:=h.gr
 refine⟨h.gb.mono hp.le,hp.inj,fun b o hb=>?_,fun b hb=>?_,⟨hp.os.trans g1,hp.tape.trans g2,hp.out.trans g3,Nat.le_trans g4 hp.sz,fun x hx hn=>(hp.fr x (Nat.lt_of_lt_of_le hx g4) fun b hb=>hwr b x hx hb).trans (g5 x hx hn)⟩,fun b x hb1 hb2=>?_⟩
 ·have hb:=hs b o hb
  by_cases ht:s'.tch b∨(s.next≤b∧b<s'.next)
  ·rcases hp.wr b ht with k|⟨_,k⟩|⟨x,p,p',k1,k2,k3,k4,k5⟩
   ·exact .inl k
   ·rw[hb]at k;cases k
   ·rw[hb]at k2;cases k2
    exact .inr ⟨x,p',k1,k3,k4,k5⟩
  ·have hn:b<s.next∨s'.next≤b:=by
    by_cases h3:b<s.next
    ·exact .inl h3
    ·exact .inr (Nat.le_of_not_lt fun h4=>ht (.inr ⟨by omega,h4⟩))
   have hw:s'.wr.testBit b=false:=by
    cases e:s'.wr.testBit b with
    |false=>rfl
    |true=>exact absurd (.inl (.inr e)) ht
   have hb0:=(g.same b hw hn).symm.trans hb
   rcases h.wr b o hb0 with k|⟨x,o',k1,k2,k3,k4⟩
   ·refine .inl (Classical.byContradiction fun h3=>ht (.inr (hp.dom b k h3)))
   ·obtain⟨m1,_,m3,m4,m5⟩:=hp.keep h.inj g k1 hw hn hb0 k2 k3 k4
    exact .inr ⟨x,o',m1,m3,m4,m5⟩
 ·rw[hn]at hb
  have h0:=h.fresh b (Nat.le_trans g.next hb)
  refine Classical.byContradiction fun h3=>?_
  have:=hp.dom b h0 h3
  omega
 ·rcases hp.le.at_ b with k|⟨_,k⟩|⟨y,k1,k2|k2⟩
  ·rcases Nat.lt_or_ge x W.heap.size with hx|hx
   ·obtain⟨b0,m1,m2⟩:=hp.own b x k hb2 hx
    rcases Nat.lt_or_ge b0 n0 with j|j
    ·rw[(okS_at ho (Nat.lt_of_lt_of_le j hn0)).2 j]at m2;cases m2
    ·exact h.new b0 x j m1
   ·omega
  ·rw[k]at hb2;cases hb2
  ·have e:y=x:=Pl.live.inj (k2.symm.trans hb2)
   subst e;exact h.new b y hb1 k1
  ·rw[k2]at hb2;cases hb2
/-- a part of a body, reckoned; what is kept of the memory -/
def segc (P:Program) (n0:Nat) (call:ACall) (size lf:Nat) (keep:List Nat) (c:Code) (st:St):Option (AX×St):=match acode P n0 call false size lf c st with
 |some (x,st')=>match okS n0 st.s st'.s&&Nat.ble n0 st.s.next with
  |true=>some (x,⟨ren size st'.env,prn keep st'.s,st'.dfs⟩)
  |false=>none
 |none=>none
def exS:AX→Option Exit
 |.normal=>some .normal
 |.ret=>some .ret
 |.exit i=>some (.exit i)
 |_=>none
/-- what a part of a body does -/
def SegQ (P:Program) (n0 size:Nat) (W0:World) (n:Nat) (c:Code) (st:St) (x:AX) (st':St):Prop:=∀ρ a W Q,Inv P n0 W0 ρ st.s W→StR P size ρ st.env st.dfs a→(∀ρ' a' W' e,exS x=some e→PLe ρ ρ'→Inv P n0 W0 ρ' st'.s W'→StR P size ρ' st'.env st'.dfs a'→Q e a' W')→c.wpIn (fw none) n P Q a W
theorem ren_EnvR {ρ:PM} {e:Tr Value} {tm:Array Value} (h:EnvR ρ e tm) (hs:tm.size=size):EnvR ρ (ren size e) tm:=fun t=>by
 have:(ren size e).get t=if t<size then e.get t else none:=by
  unfold ren
  rw[ren_get,Tr.get_e]
  simp only [List.mem_range,Option.or_none]
 rw[this]
 split
 ·exact h t
 ·rename_i ht
  rw[Array.getD_eq_getD_getElem?,Array.getElem?_eq_none (by omega)]
  exact flat_VR rfl
theorem seg_code {call:ACall} (hc:CallOK P n0 call) (hm:P.follows .mixedOrders=true) {keep:List Nat} {c:Code} {st st':St} {x:AX} (h:segc P n0 call size lf keep c st=some (x,st')) {n:Nat} (hx:(exS x).isSome=true):SegQ P n0 size W0 n c st x st':=by
 intro ρ a W Q hI hs hQ
 unfold segc at h
 split at h<;>try cases h
 next x1 st1 h1=>
 split at h<;>cases h
 next hok=>
 rw[Bool.and_eq_true]at hok
 have hn0:=Nat.le_of_ble_eq_true hok.2
 refine acode_sound hc (fun _=>rfl) hm c _ _ _ _ _ _ _ h1 hs (hI.pre hok.1) fun ρ1 a1 W1 hpo=>?_
 have hI1:Inv P n0 W0 ρ1 (prn keep st1.s) W1:=hI.post hn0 hok.1 hpo (acode_grow hc _ _ _ _ h1) rfl fun b o hb=>prn_get keep .o (fun o h=>by rw[Tr.get_e]at h;cases h) hb
 cases x with
 |normal=>exact fun hs1=>hQ ρ1 a1 W1 .normal rfl hpo.le hI1 ⟨ren_EnvR hs1.env hs1.size,hs1.size,hs1.defers⟩
 |ret=>exact fun hs1=>hQ ρ1 a1 W1 .ret rfl hpo.le hI1 ⟨ren_EnvR hs1.env hs1.size,hs1.size,hs1.defers⟩
 |exit i=>exact fun hs1=>hQ ρ1 a1 W1 (.exit i) rfl hpo.le hI1 ⟨ren_EnvR hs1.env hs1.size,hs1.size,hs1.defers⟩
 |panic=>cases hx
theorem seg_seq {a b:Code} {st st1 st2:St} {x:AX} {n:Nat} (h1:SegQ P n0 size W0 n a st .normal st1) (h2:SegQ P n0 size W0 n b st1 x st2):SegQ P n0 size W0 n (.seq a b) st x st2:=by
 intro ρ ac W Q hI hs hQ
 refine wpIn_seq (h1 ρ ac W _ hI hs fun ρ1 a1 W1 e he hl hI1 hs1=>?_)
 cases he
 exact h2 ρ1 a1 W1 Q hI1 hs1 fun ρ2 a2 W2 e he hl2 hI2 hs2=>hQ ρ2 a2 W2 e he (hl.trans hl2) hI2 hs2
/-- the end of a body -/
def segE (P:Program) (n0:Nat) (call:ACall) (lf:Nat) (keep:List Nat) (fn:Func) (st:St):Option (CO×AS):=match alv P n0 call lf st.dfs .ret st.s with
 |some (.ret,s)=>match ares P n0 st.env fn s with
  |some (r,s')=>match okS n0 st.s s'&&Nat.ble n0 st.s.next with
   |true=>some (r,prn keep s')
   |false=>none
  |none=>none
 |_=>none
/-- what a call does, out of its body's parts -/
theorem seg_body {call:ACall} (hc:CallOK P n0 call) (hm:P.follows .mixedOrders=true) {keep:List Nat} {f:FuncId} {fn:Func} {c:Code} {args args':Array Value} {x:AX} {s s':AS} {st:St} {r:CO} {n:Nat}
  (hf:P.funcs[f]? =some fn) (hb:fn.body=some c) (h1:SegQ P n0 (args.size+(fn.ntmps-args.size)) W0 n c ⟨envOf args.toList 0 .o,s,[]⟩ x st) (hx:x= .normal∨x= .ret) (h2:segE P n0 call lf keep fn st=some (r,s')) {ρ:PM} {W:World} (hI:Inv P n0 W0 ρ s W) (ha:AV ρ args args'):
  CallsIn Fence.wide n P f args' W fun e W'=>∃ρ',PLe ρ ρ'∧Inv P n0 W0 ρ' s' W'∧RetR ρ' r e:=by
 refine callsIn_of_wp_marks hf hb trivial ?_ rfl
 refine h1 ρ _ W _ hI (start_StR ha _) fun ρ1 a1 W1 e he hl hI1 hs1=>?_
 unfold segE at h2
 split at h2<;>try cases h2
 next s1 hal=>
 split at h2<;>try cases h2
 next r1 s2 har=>
 split at h2<;>cases h2
 next hok=>
 rw[Bool.and_eq_true]at hok
 have hn0:=Nat.le_of_ble_eq_true hok.2
 have har:=ares_eq har
 unfold ares0 at har
 split at har<;>cases har
 next v har=>
 have g2:=alv_grow hc _ _ _ _ _ hal
 have g3:=arun_grow _ _ _ _ har
 have hp1:=hI1.pre hok.1
 have main:LeavesInM Fence.wide n P fn a1.tmps (fun e W'=>∃ρ',PLe ρ ρ'∧Inv P n0 W0 ρ' (prn keep s2) W'∧RetR ρ' (.ret v) e) a1.defers .returning W1:=by
  refine alv_sound hc hm _ _ _ _ _ _ ρ1 _ W1 hal hs1.defers (hp1.less g3) rfl fun ρ2 W2 u2 hpo2 hmd=>?_
  have hmd:u2= .returning:=hmd
  subst hmd
  have hp2:=hp1.after hpo2 g2 g3
  have hsr:=vs_res (P:=P) (ρ:=ρ2) (g:=fun t=>(st.env.get t).getD undef) (g':=fun t=>a1.tmps.getD t undef) (fun t=>(hs1.env t).mono hpo2.le) fn
  obtain⟨ρ3,W3,⟨v',k1,k2⟩,k3⟩:=arun_sound hsr _ _ _ W2 har hp2.inj hp2.wr hp2.fresh
  have:=Still.res _ _ _ _ _ k1
  subst this
  have hpo3:=Post.trans hp1.inj g2 g3 hpo2 k3
  exact⟨v',k1,ρ3,hl.trans hpo3.le,hI1.post hn0 hok.1 hpo3 (g2.trans g3) rfl (fun b o hb=>prn_get keep .o (fun o h=>by rw[Tr.get_e]at h;cases h) hb),v',rfl,k2⟩
 cases x with
 |normal=>cases he;exact main
 |ret=>cases he;exact main
 |exit=>rcases hx with h|h<;>cases h
 |panic=>cases he
/-- how a closed call begins -/
theorem gst_inv {G:GV} (hG:G.g<G.n0) {W:World} (h:GIn G W):∃ρ,Inv P G.n0 W ρ (gst G) W:=by
 have hp:=gpm_pre (P:=P) (cap:=fun _=>match W.heap[G.g]? with|some o=>ocap P o|none=>0) hG h (fun o' ho=>by rw[ho]) ⟨.o,0,bit G.g,0⟩
 refine⟨_,hp.gb,hp.inj,fun b o hb=>?_,fun b hb=>?_,⟨rfl,rfl,rfl,Nat.le_refl _,fun _ _ _=>rfl⟩,fun b x h1 h2=>?_⟩
 ·have hbg:b=G.g:=by
   unfold gst at hb
   rw[Tr.get_set]at hb
   split at hb
   ·assumption
   ·rw[Tr.get_e]at hb;cases hb
  subst hbg
  rcases hp.wr G.g (.inl (by show (bit G.g).testBit G.g=true;have:=bit_self 0 G.g;rwa[Nat.zero_or]at this)) with k|⟨_,k⟩|⟨x,p,p',k1,k2,k3,k4,k5⟩
  ·exact .inl k
  ·rw[hb]at k;cases k
  ·rw[hb]at k2;cases k2;exact .inr ⟨x,p',k1,k3,k4,k5⟩
 ·have hb:G.n0+1≤b:=hb
  simp only [gpm]
  rw[if_neg (by omega),if_neg (by omega)]
 ·simp only [gpm]at h2
  rw[if_neg (by omega)]at h2
  split at h2<;>cases h2
end
end
end Go.Proofs.YtmnoaeffocnnmaaGreatDoor

namespace Go.Proofs.YtmnoaeffocnnmaaGreatDoor
noncomputable section
section
variable {P:Program} {n0 lf size:Nat} {W0:World}
/-- what a call does, between two parts -/
def CallSeg (P:Program) (n0:Nat) (W0:World) (f:FuncId) (args:Array Value) (s:AS) (r:CO) (s':AS):Prop:=∀(n:Nat) (ρ:PM) (W:World) (args':Array Value),Inv P n0 W0 ρ s W→AV ρ args args'→CallsIn Fence.wide n P f args' W fun e W'=>∃ρ',PLe ρ ρ'∧Inv P n0 W0 ρ' s' W'∧RetR ρ' r e
/-- .. and operations -/
def OpsQ (P:Program) (n0 size:Nat) (W0:World) (n:Nat) (ops:Array Oper) (l:List Nat) (st st':St):Prop:=∀ρ a W (Q:Exit→Act→World→Prop),Inv P n0 W0 ρ st.s W→StR P size ρ st.env st.dfs a→(∀ρ' a' W',PLe ρ ρ'→Inv P n0 W0 ρ' st'.s W'→StR P size ρ' st'.env st'.dfs a'→Q .normal a' W')→wpOpsIn (fw none) n P ops Q l a W
theorem seg_region {id n:Nat} {ops:Array Oper} {st st':St} (h:OpsQ P n0 size W0 n ops (List.range ops.size) st st'):SegQ P n0 size W0 n (.region id ops false) st .normal st':=fun ρ a W Q hI hs hQ=>wpIn_region (h ρ a W Q hI hs fun ρ' a' W' h1 h2 h3=>hQ ρ' a' W' .normal rfl h1 h2 h3)
/-- the last operations, reckoned -/
def opsc (P:Program) (n0:Nat) (call:ACall) (size:Nat) (keep:List Nat) (ops:Array Oper) (k:Nat) (st:St):Option St:=match aops P n0 call size ops true (ops.toList.drop k) st with
 |some (.normal,st')=>match okS n0 st.s st'.s&&Nat.ble n0 st.s.next with
  |true=>some ⟨ren size st'.env,prn keep st'.s,st'.dfs⟩
  |false=>none
 |_=>none
theorem ops_end {call:ACall} (hc:CallOK P n0 call) {keep:List Nat} {ops:Array Oper} {k m:Nat} {st st':St} (h:opsc P n0 call size keep ops k st=some st') {n:Nat} (hm:(ops.toList.drop k).length=m):OpsQ P n0 size W0 n ops (List.range' k m) st st':=by
 intro ρ a W Q hI hs hQ
 subst hm
 unfold opsc at h
 split at h<;>try cases h
 next st1 h1=>
 split at h<;>cases h
 next hok=>
 rw[Bool.and_eq_true]at hok
 have hn0:=Nat.le_of_ble_eq_true hok.2
 refine aops_sound (rd:=none) hc (fun _=>rfl) (ops.toList.drop k) k st st1 .normal ρ a W rfl h1 hs (hI.pre hok.1) (fun _ ρ1 a1 W1 hs1 hpo=>?_) (fun v e=>by cases e)
 exact hQ ρ1 a1 W1 hpo.le (hI.post hn0 hok.1 hpo (aops_grow hc _ _ _ _ h1) rfl fun b o hb=>prn_get keep .o (fun o h=>by rw[Tr.get_e]at h;cases h) hb) ⟨ren_EnvR hs1.env hs1.size,hs1.size,hs1.defers⟩
/-- one operation, reckoned -/
def opc (P:Program) (n0:Nat) (call:ACall) (size:Nat) (keep:List Nat) (ops:Array Oper) (k:Nat) (st:St):Option St:=match ops[k]? with
 |some o=>match aop1 P n0 call size ops true o st with
  |some (.normal,st')=>match okS n0 st.s st'.s&&Nat.ble n0 st.s.next with
   |true=>some ⟨ren size st'.env,prn keep st'.s,st'.dfs⟩
   |false=>none
  |_=>none
 |none=>none
theorem ops_one {call:ACall} (hc:CallOK P n0 call) {keep:List Nat} {ops:Array Oper} {k:Nat} {l:List Nat} {st st1 st':St} (h:opc P n0 call size keep ops k st=some st1) {n:Nat} (hr:OpsQ P n0 size W0 n ops l st1 st'):OpsQ P n0 size W0 n ops (k::l) st st':=by
 intro ρ a W Q hI hs hQ
 unfold opc at h
 split at h<;>try cases h
 next o ho=>
 split at h<;>try cases h
 next st2 h1=>
 split at h<;>cases h
 next hok=>
 rw[Bool.and_eq_true]at hok
 have hn0:=Nat.le_of_ble_eq_true hok.2
 rw[wpOpsIn_cons]
 refine aop1_sound (rd:=none) hc (fun _=>rfl) h1 ho hs.guard (hs.opV hI.gb) hs.defers (hI.pre hok.1) (fun ρ1 W1 v v' sx a1 hap he ht _ hd hv hpo=>?_) (fun v e=>by cases e)
 have hs1:StR P size ρ1 sx.env sx.dfs a1:=⟨by rw[he];unfold EnvR;rw[ht];exact (hs.env.mono hpo.le),by rw[ht];exact hs.size,hd⟩
 have hs2:=(aput_StR hap hs1 hv).2.2
 refine hr ρ1 _ W1 Q (hI.post hn0 hok.1 hpo (aop1_grow hc h1) rfl fun b o hb=>prn_get keep .o (fun o h=>by rw[Tr.get_e]at h;cases h) hb) ⟨ren_EnvR hs2.env hs2.size,hs2.size,hs2.defers⟩ fun ρ2 a2 W2 h1 h2 h3=>hQ ρ2 a2 W2 (hpo.le.trans h1) h2 h3
/-- how a call is entered -/
def opn (P:Program) (n0:Nat) (ops:Array Oper) (k:Nat) (st:St):Option (FuncId×Array Value×AS):=match ops[k]? with
 |some o=>match wnt ops o st.env with
  |true=>match eop P n0 st.env o st.s with
   |some (.enter (.func f) args,s)=>match okS n0 st.s s&&Nat.ble n0 st.s.next with
    |true=>some (f,args,s)
    |false=>none
   |_=>none
  |false=>none
 |none=>none
def dstk (ops:Array Oper) (k:Nat):Option Tmp:=match ops[k]? with
 |some o=>o.dst
 |none=>none
theorem ops_call {ops:Array Oper} {k:Nat} {l:List Nat} {st st1 st':St} {f:FuncId} {args:Array Value} {s2:AS} {v:Value} {n:Nat} (h:opn P n0 ops k st=some (f,args,st.s)) (hc:CallSeg P n0 W0 f args st.s (.ret v) s2) (hp:aput size (dstk ops k) v {st with s:=s2}=some (.normal,st1)) (hr:OpsQ P n0 size W0 n ops l st1 st'):OpsQ P n0 size W0 n ops (k::l) st st':=by
 intro ρ a W Q hI hs hQ
 unfold opn at h
 split at h<;>try cases h
 next o ho=>
 have hdst:dstk ops k=o.dst:=by unfold dstk;rw[ho]
 rw[hdst]at hp
 split at h<;>try cases h
 next hw=>
 split at h<;>try cases h
 next f1 args1 s1 hop=>
 split at h<;>try cases h
 next hok=>
 rw[Bool.and_eq_true]at hok
 have hn0:=Nat.le_of_ble_eq_true hok.2
 rw[wpOpsIn_cons]
 unfold wpOpIn
 rw[ho]
 dsimp only
 rw[wnt_eq (ρ:=ρ) hs.guard,hw,if_pos rfl]
 refine⟨fun _ _=>trivial,?_⟩
 have hsem:Oper.semAt (fw none).round a.eval o=execOp a.eval o:=rfl
 rw[hsem]
 obtain⟨ρ1,W1,⟨args',hrun,hargs⟩,hpo⟩:=eop_sound hop (hs.opV hI.gb) (hI.pre hok.1)
 rw[hrun]
 have hI1:Inv P n0 W0 ρ1 st.s W1:=hI.post hn0 hok.1 hpo (eop_grow hop) rfl fun b o h=>h
 refine⟨fun h=>(by cases h),(hc _ ρ1 W1 args' hI1 hargs).mono fun e W2 he=>?_⟩
 obtain⟨ρ2,hl2,hI2,v',rfl,hv⟩:=he
 have hl:=hpo.le.trans hl2
 have hs1:StR P size ρ2 st.env st.dfs a:=hs.mono hl
 obtain⟨_,e2,hs2⟩:=aput_StR (st:={st with s:=s2}) hp hs1 hv
 exact hr ρ2 _ W2 Q (by rw[e2];exact hI2) hs2 fun ρ3 a3 W3 h1 h2 h3=>hQ ρ3 a3 W3 (hl.trans h1) h2 h3
theorem callSeg_body {call:ACall} (hc:CallOK P n0 call) (hm:P.follows .mixedOrders=true) {keep:List Nat} {f:FuncId} {fn:Func} {c:Code} {args:Array Value} {x:AX} {s s':AS} {st:St} {r:CO}
  (hf:P.funcs[f]? =some fn) (hb:fn.body=some c) (h1:∀n,SegQ P n0 (args.size+(fn.ntmps-args.size)) W0 n c ⟨envOf args.toList 0 .o,s,[]⟩ x st) (hx:x= .normal∨x= .ret) (h2:segE P n0 call lf keep fn st=some (r,s')):CallSeg P n0 W0 f args s r s':=fun n _ _ _ hI ha=>seg_body hc hm hf hb (h1 n) hx h2 hI ha
theorem seg_block {id n:Nat} {b:Code} {st st1:St} {x:AX} (h:SegQ P n0 size W0 n b st x st1) (hx:x= .normal∨x= .exit id):SegQ P n0 size W0 n (.block id b) st .normal st1:=by
 intro ρ a W Q hI hs hQ
 refine wpIn_block (h ρ a W _ hI hs fun ρ1 a1 W1 e he hl hI1 hs1=>?_)
 rcases hx with rfl|rfl
 ·cases he
  exact hQ ρ1 a1 W1 .normal rfl hl hI1 hs1
 ·cases he
  show (if id=id then Q .normal a1 W1 else Q (.exit id) a1 W1)
  rw[if_pos rfl]
  exact hQ ρ1 a1 W1 .normal rfl hl hI1 hs1
end
end
end Go.Proofs.YtmnoaeffocnnmaaGreatDoor
