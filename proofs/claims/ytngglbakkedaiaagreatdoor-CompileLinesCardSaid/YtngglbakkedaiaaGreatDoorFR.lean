import Derived.Test.YtngglbakkedaiaaGreatDoorEY
import Derived.Lib.Atoi
import Derived.Lib.AtoiErrMem
set_option linter.all false
namespace Go.Proofs.YtngglbakkedaiaaGreatDoor
section
noncomputable section
def nzL {β:Type}:List UInt8→(List UInt8→β)→β
 |[],k=>k []
 |b::l,k=>sq b.toNat fun n=>nzL l fun l=>k (UInt8.ofNat n::l)
theorem nzL_eq {β:Type}:∀(l:List UInt8) (k:List UInt8→β),nzL l k=k l
 |[],_=>rfl
 |b::l,k=>by
  unfold nzL
  rw[sq_eq,nzL_eq l]
  simp
def nz1 {β:Type} (v:Value) (k:Value→β):β:=match v with
 |.int q (.ofNat n)=>sq n fun n=>k (.int q (.ofNat n))
 |.int q (.negSucc n)=>sq n fun n=>k (.int q (.negSucc n))
 |.string ⟨⟨l⟩⟩=>nzL l fun l=>k (.string ⟨⟨l⟩⟩)
 |.bool true=>k (.bool true)
 |.bool false=>k (.bool false)
 |v=>k v
theorem nz1_eq {β:Type} (v:Value) (k:Value→β):nz1 v k=k v:=by
 unfold nz1
 split<;>first|rw[sq_eq]|rw[nzL_eq]|rfl
def nzA {β:Type}:List Value→(List Value→β)→β
 |[],k=>k []
 |v::l,k=>nz1 v fun v=>nzA l fun l=>k (v::l)
theorem nzA_eq {β:Type}:∀(l:List Value) (k:List Value→β),nzA l k=k l
 |[],_=>rfl
 |v::l,k=>by
  unfold nzA
  rw[nz1_eq,nzA_eq l]
section
variable {P:Program} {n0:Nat} {lf:Nat}
def orX (a b:ACall→ACall):ACall→ACall:=fun call f args s=>match a call f args s with
 |some r=>some r
 |none=>b call f args s
theorem orX_ok {a b:ACall→ACall} (ha:ExtOK P n0 a) (hb:ExtOK P n0 b):ExtOK P n0 (orX a b):=fun call hc=>by
 have h1:=ha call hc
 have h2:=hb call hc
 refine⟨fun f args s r s' h=>?_,fun f args s r s' ρ W args' n h k hp=>?_,fun l l' args s r s' ρ W args' h k1 k2 hp=>?_⟩
 ·unfold orX at h
  split at h
  ·next hr=>cases h;exact h1.grow _ _ _ _ _ hr
  ·exact h2.grow _ _ _ _ _ h
 ·unfold orX at h
  split at h
  ·next hr=>cases h;exact h1.ok _ _ _ _ _ _ _ _ _ hr k hp
  ·exact h2.ok _ _ _ _ _ _ _ _ _ h k hp
 ·unfold orX at h
  split at h
  ·next hr=>cases h;exact h1.rnd _ _ _ _ _ _ _ _ _ hr k1 k2 hp
  ·exact h2.rnd _ _ _ _ _ _ _ _ _ h k1 k2 hp
end
end
end
section
open Go.RowKit (Below)
noncomputable section
structure GV where
 g:Nat
 t:TypeId
 v:TypeId
 n0:Nat
def gst (G:GV):AS:=⟨Tr.set .o G.g (some (.cells #[.iface G.v (.pointer (some ⟨G.n0,0,none⟩))] G.t)),G.n0+1,0,0⟩
def isG (G:GV) (s:AS):Bool:=match s.heap.get G.g with
 |some (.cells ⟨[.iface v (.pointer (some ⟨_,0,none⟩))]⟩ t _)=>Nat.beq v G.v&&Nat.beq t G.t
 |_=>false
def GIn (G:GV) (W:World):Prop:=∃c' b,W.heap[G.g]? =some (.cells c' G.t (0,0))∧c'[0]? =some (.iface G.v (.pointer (some b)))
def gpm (G:GV) (cap:Nat→Nat):PM:=⟨fun b=>if b=G.g then .live G.g else if b≤G.n0 then .dead else .abs,cap⟩
section
variable {P:Program} {n0 lf:Nat}
theorem gpm_pre {G:GV} (hG:G.g<G.n0) {W:World} (h:GIn G W) {cap:Nat→Nat} (hcap:∀o',W.heap[G.g]? =some o'→cap G.g=ocap P o') (s1:AS):Pre P G.n0 (gpm G cap) (gst G) s1 W:=by
 obtain⟨c',b,h1,h2⟩:=h
 have hlt:G.g<W.heap.size:=by
  rcases Nat.lt_or_ge G.g W.heap.size with h|h
  ·exact h
  ·rw[Array.getElem?_eq_none h]at h1;cases h1
 refine⟨fun g hg=>?_,⟨fun x y z k1 k2=>?_,fun x z k=>?_⟩,fun x _=>?_,fun x k1 _=>?_⟩
 ·by_cases e:g=G.g
  ·exact .inr (by simp only [gpm,e,if_true])
  ·exact .inl (by simp only [gpm,if_neg e];rw[if_pos (by omega)])
 ·have key:∀x,(gpm G cap) x= .live z→x=G.g:=fun x k=>by
   simp only [gpm]at k
   split at k
   ·assumption
   ·split at k<;>cases k
  rw[key x k1,key y k2]
 ·simp only [gpm]at k
  split at k
  ·cases k;exact hlt
  ·split at k<;>cases k
 ·by_cases e:x=G.g
  ·subst e
   refine .inr (.inr ⟨_,_,_,by simp only [gpm,if_true],by unfold gst;simp only[Tr.get_set,if_true];rfl,h1,.cells _ ?_ (fun i v v' hi hi'=>?_),hcap _ h1⟩)
   ·have:=(Array.getElem?_eq_some_iff.1 h2).1
    show 1≤c'.size
    omega
   ·cases i with
    |zero=>
     rw[h2]at hi'
     cases hi'
     have:v= .iface G.v (.pointer (some ⟨G.n0,0,none⟩)):=by simpa using hi.symm
     subst this
     have hd:(gpm G cap) G.n0= .dead:=by
      show (if G.n0=G.g then Pl.live G.g else if G.n0≤G.n0 then Pl.dead else .abs)= .dead
      rw[if_neg (by omega),if_pos (Nat.le_refl _)]
     exact .iface _ (.ptr ⟨.inl hd,.inl hd⟩)
    |succ i=>simp at hi
  ·by_cases e2:x≤G.n0
   ·exact .inr (.inl ⟨by simp only [gpm,if_neg e,if_pos e2],by unfold gst;simp only[Tr.get_set,if_neg e];exact Tr.get_e x⟩)
   ·exact .inl (by simp only [gpm,if_neg e,if_neg e2])
 ·have k1:G.n0+1≤x:=k1
  simp only [gpm]
  rw[if_neg (by omega),if_neg (by omega)]
theorem isG_GIn {G:GV} (hG:G.g<n0) {ρ:PM} {s s':AS} {W:World} (h:isG G s=true) (hp:Pre P n0 ρ s s' W) (ht:s'.tch G.g):ρ G.g= .live G.g∧GIn G W∧∀o',W.heap[G.g]? =some o'→ρ.cap G.g=ocap P o':=by
 unfold isG at h
 split at h
 ·rename_i v q t fz hg
  rw[Bool.and_eq_true]at h
  have e1:=Nat.eq_of_beq_eq_true h.1;have e2:=Nat.eq_of_beq_eq_true h.2
  subst e1;subst e2
  obtain⟨hl,o',ho',hor,hc⟩:=BR.live hp.wr (hp.gb G.g hG) ht hg
  cases hor with
  |cells _ hz hcc=>
   rename_i c'
   refine⟨hl,?_,fun o2 h2=>by rw[ho']at h2;cases h2;exact hc⟩
   have hz:1≤c'.size:=hz
   have h0:=hcc 0 _ _ (by rfl) (Array.getElem?_eq_getElem (by omega))
   generalize hw:c'[0]=w at h0
   cases h0 with
   |iface _ h0=>
    cases h0 with
    |ptr hA=>
     rename_i ad
     exact⟨c',ad,ho',by rw[Array.getElem?_eq_getElem (by omega),hw]⟩
 ·cases h
theorem post_more {ρ:PM} {s s':AS} {W W':World} (hb:Below W.heap.size W W') (hn:s'.next=s.next) (hh:s'.heap=s.heap) (hp:Pre P n0 ρ s s' W):Post P ρ s s' W ρ W':=by
 refine⟨PLe.refl _,fun b h1 h2=>absurd h1 h2,fun b x h1 h2=>(by rw[h1]at h2;cases h2),⟨hp.inj.inj,fun b x hb'=>Nat.lt_of_lt_of_le (hp.inj.lt b x hb') hb.size⟩,fun b hb'=>?_,fun x hx _=>hb.block x hx,hb.size,hb.os,hb.tape,hb.output,fun b x h1 h2=>(by rw[h1]at h2;cases h2)⟩
 rcases hb' with hb'|hb'
 ·rw[hh]
  rcases hp.wr b hb' with h|h|⟨x,o,o',h1,h2,h3,h4⟩
  ·exact .inl h
  ·exact .inr (.inl h)
  ·exact .inr (.inr ⟨x,o,o',h1,h2,(hb.block x (hp.inj.lt b x h1)).trans h3,h4⟩)
 ·rw[hn]at hb';omega
theorem post_dead {ρ:PM} {s:AS} {W W':World} {m:Nat} (hb:Below W.heap.size W W') (hz:s.heap.get s.next=none) (hp:Pre P n0 ρ s {s with next:=s.next+1,rd:=m} W):
  Post P ρ s {s with next:=s.next+1,rd:=m} W ⟨fun b=>if b=s.next then .dead else ρ b,ρ.cap⟩ W'∧(⟨fun b=>if b=s.next then Pl.dead else ρ b,ρ.cap⟩:PM) s.next= .dead:=by
 have hab:ρ s.next= .abs:=hp.fresh _ (Nat.le_refl _) (by show s.next<s.next+1;omega)
 have key:∀c y,(if c=s.next then Pl.dead else ρ c)= .live y→ρ c= .live y:=fun c y h=>by
  split at h
  ·cases h
  ·exact h
 have hle:PLe ρ ⟨fun b=>if b=s.next then .dead else ρ b,ρ.cap⟩:=by
  refine⟨fun c=>?_,fun _ _=>rfl⟩
  by_cases e:c=s.next
  ·exact .inl (e▸hab)
  ·simp only[if_neg e];exact (PLe.refl ρ).at_ c
 refine⟨⟨hle,fun c h1 h2=>?_,fun c x h1 h2=>?_,⟨fun c d x h1 h2=>hp.inj.inj c d x (key c x h1) (key d x h2),fun c x h1=>Nat.lt_of_lt_of_le (hp.inj.lt c x (key c x h1)) hb.size⟩,fun c hc=>?_,fun x hx _=>hb.block x hx,hb.size,hb.os,hb.tape,hb.output,fun c x h1 h2=>(by rw[key c x h2]at h1;cases h1)⟩,by simp⟩
 ·by_cases e:c=s.next
  ·subst e;exact⟨Nat.le_refl _,Nat.lt_succ_self _⟩
  ·simp only[if_neg e]at h2;exact absurd h1 h2
 ·by_cases e:c=s.next
  ·subst e;rw[hab]at h1;cases h1
  ·simp only[if_neg e]at h2;rw[h1]at h2;cases h2
 ·by_cases e:c=s.next
  ·subst e;exact .inr (.inl ⟨by simp,hz⟩)
  ·have hc2:AS.tch {s with next:=s.next+1,rd:=m} c:=by
    rcases hc with h|h
    ·exact h
    ·have h2:c<s.next+1:=h.2
     have:=h.1
     omega
   simp only[if_neg e]
   rcases hp.wr c hc2 with h|h|⟨x,o,o',h1,h2,h3,h4,h5⟩
   ·exact .inl h
   ·exact .inr (.inl h)
   ·exact .inr (.inr ⟨x,o,o',h1,h2,(hb.block x (hp.inj.lt c x h1)).trans h3,h4.mono hle,h5⟩)
structure AtoiLaw (P:Program) (G:GV) (fa eT bT:Nat):Prop where
 ok:∀(s:ByteArray) (n:Int),s.size≤18→Go.Lib.atoi s.data.toList=some n→∀w:World,Calls P fa #[.string s] w fun e w'=>e= .returned (.tuple #[.int .i64 n,.nilIface])∧∃t,w'=Go.Lib.bytesWorld w bT t
 err:∀s:ByteArray,s.size≤18→Go.Lib.atoi s.data.toList=none→∀w:World,∀te pe,w.cell? ⟨G.g,0,none⟩=some (.iface te pe)→Calls P fa #[.string s] w fun e w'=>∃N,e= .returned (.tuple #[.int .i64 0,.iface eT (.pointer (some ⟨N,0,none⟩))])∧Below w.heap.size w w'
def isDg:List UInt8→Bool
 |[]=>true
 |b::r=>match Nat.ble 48 b.toNat&&Nat.ble b.toNat 57 with
  |true=>isDg r
  |false=>false
def dec10:List UInt8→Nat→Nat
 |[],n=>n
 |b::r,n=>sq (n*10+(b.toNat-48)) fun m=>dec10 r m
def atoiQ:List UInt8→Option Int
 |[]=>none
 |b::r=>match Nat.beq b.toNat 45 with
  |true=>match r with
   |[]=>none
   |_=>match isDg r with
    |true=>some (-(.ofNat (dec10 r 0)))
    |false=>none
  |false=>match Nat.beq b.toNat 43 with
   |true=>match r with
    |[]=>none
    |_=>match isDg r with
     |true=>some (.ofNat (dec10 r 0))
     |false=>none
   |false=>match isDg (b::r) with
    |true=>some (.ofNat (dec10 (b::r) 0))
    |false=>none
theorem decFrom_eq:∀(l:List UInt8) (n:Nat),Go.Lib.decFrom n l=if isDg l then some (dec10 l n) else none
 |[],n=>rfl
 |b::r,n=>by
  unfold Go.Lib.decFrom isDg dec10 Go.Lib.digitVal
  rw[sq_eq]
  cases h:Nat.ble 48 b.toNat&&Nat.ble b.toNat 57 with
  |true=>
   rw[Bool.and_eq_true]at h
   rw[if_pos ⟨Nat.le_of_ble_eq_true h.1,Nat.le_of_ble_eq_true h.2⟩]
   dsimp only
   exact decFrom_eq r _
  |false=>
   rw[if_neg (fun k=>by rw[Nat.ble_eq_true_of_le k.1,Nat.ble_eq_true_of_le k.2]at h;cases h)]
   rfl
theorem atoiQ_eq (l:List UInt8):Go.Lib.atoi l=atoiQ l:=by
 cases l with
 |nil=>rfl
 |cons b r=>
  unfold Go.Lib.atoi atoiQ
  have hb:∀k:UInt8,(b==k)=Nat.beq b.toNat k.toNat:=fun k=>by
   by_cases e:b=k
   ·subst e;rw[beq_self_eq_true,Nat.beq_refl]
   ·rw[beq_eq_false_iff_ne.2 e,nbF (fun h=>e (UInt8.toNat_inj.1 h))]
  have h1:=hb 45;have h2:=hb 43
  have e1:(45:UInt8).toNat=45:=rfl
  have e2:(43:UInt8).toNat=43:=rfl
  rw[e1]at h1;rw[e2]at h2
  have hd:∀r:List UInt8,Go.Lib.decNat r=match r with|[]=>none|_=>if isDg r then some (dec10 r 0) else none:=fun r=>by
   cases r with
   |nil=>rfl
   |cons c r=>
    unfold Go.Lib.decNat
    simp only [List.isEmpty_cons,Bool.false_eq_true,if_false]
    exact decFrom_eq _ _
  simp only[h1,h2,hd]
  cases Nat.beq b.toNat 45 with
  |true=>
   cases r with
   |nil=>rfl
   |cons c r=>cases h:isDg (c::r)<;>rfl
  |false=>
   cases Nat.beq b.toNat 43 with
   |true=>
    cases r with
    |nil=>rfl
    |cons c r=>cases h:isDg (c::r)<;>rfl
   |false=>cases h:isDg (b::r)<;>rfl
def atoiX (G:GV) (fa eT:Nat):ACall→ACall:=fun _ f args s=>match f with
 |.func g=>match Nat.beq g fa with
  |true=>match args.toList with
   |[.string ⟨⟨l⟩⟩]=>match Nat.ble l.length 18 with
    |true=>match atoiQ l with
     |some n=>some (.ret (.tuple #[.int .i64 n,.nilIface]),s)
     |none=>match isG G s with
      |true=>match s.heap.get s.next with
       |none=>sq (s.next+1) fun nx=>sq (s.rd|||bit G.g) fun rd=>some (.ret (.tuple #[.int .i64 0,.iface eT (.pointer (some ⟨s.next,0,none⟩))]),{s with next:=nx,rd:=rd})
       |some _=>none
      |false=>none
    |false=>none
   |_=>none
  |false=>none
 |_=>none
theorem atoiX_ok {G:GV} (hG:G.g<n0) {fa eT bT:Nat} (hA:AtoiLaw P G fa eT bT):ExtOK P n0 (atoiX G fa eT):=fun call _=>by
 refine⟨fun f args s r s' h=>?_,fun f args s r s' ρ W args' n h ha hp=>?_,fun l l' args s r s' ρ W args' h=>(by cases h)⟩
 ·unfold atoiX at h
  split at h<;>try cases h
  split at h<;>try cases h
  split at h<;>try cases h
  split at h<;>try cases h
  split at h
  ·cases h;exact Grow.refl _
  ·split at h<;>try cases h
   split at h<;>try cases h
   rw[sq_eq,sq_eq]at h
   cases h
   exact⟨Nat.le_succ _,fun b h=>or_l h,fun b h=>h,fun b _ _=>rfl⟩
 ·unfold atoiX at h
  dsimp only at h
  split at h<;>try cases h
  next hf=>
  have hf:f=fa:=Nat.eq_of_beq_eq_true hf
  subst hf
  split at h<;>try cases h
  next l hargs=>
  have hargs:args= #[.string ⟨⟨l⟩⟩]:=by rw[←Array.toArray_toList (xs:=args),hargs]
  subst hargs
  have hargs':args'= #[.string ⟨⟨l⟩⟩]:=by
   apply Array.ext
   ·exact ha.1.symm
   ·intro i h1 h2
    have hi:i=0:=by
     have:i<1:=h2
     omega
    subst hi
    have:=ha.2 0 _ _ (Array.getElem?_eq_getElem h2) (Array.getElem?_eq_getElem h1)
    generalize args'[0]=w at this
    cases this
    rfl
  subst hargs'
  split at h<;>try cases h
  next hl=>
  have hl:(⟨⟨l⟩⟩:ByteArray).size≤18:=Nat.le_of_ble_eq_true hl
  split at h
  ·next n hn=>
   cases h
   refine (callsIn_wide.2 (hA.ok ⟨⟨l⟩⟩ n hl ((atoiQ_eq l).trans hn) W)).mono fun e W' he=>?_
   obtain⟨rfl,t,rfl⟩:=he
   refine⟨ρ,post_more (Go.Lib.bytesWorld_below W _ t) rfl rfl hp,_,rfl,flat_VR rfl⟩
  ·next hn=>
   split at h<;>try cases h
   next hg=>
   split at h<;>try cases h
   next hz=>
   rw[sq_eq,sq_eq]at h
   cases h
   obtain⟨_,⟨c',b,k1,k2⟩,_⟩:=isG_GIn hG hg hp (.inl (bit_self _ _))
   refine (callsIn_wide.2 (hA.err ⟨⟨l⟩⟩ hl ((atoiQ_eq l).trans hn) W _ _ (by unfold World.cell?;rw[k1];exact k2))).mono fun e W' he=>?_
   obtain⟨N,rfl,hb⟩:=he
   obtain⟨h1,h2⟩:=post_dead hb hz hp
   refine⟨_,h1,_,rfl,.tuple rfl fun i v v' hi hi'=>?_⟩
   have hi2:i<2:=(Array.getElem?_eq_some_iff.1 hi).1
   rcases (show i=0∨i=1 by omega) with e|e
   ·subst e;cases hi;cases hi';exact .int _ _
   ·subst e;cases hi;cases hi';exact .iface _ (.ptr (AR.mk (.inl h2) rfl rfl))
def pureVG (P:Program) (G:GV) (ext:ACall→ACall) (lf k:Nat) (g:FuncId) (l:List Value):Option Value:=match acall P G.n0 ext lf k (.func g) ⟨l⟩ (gst G) with
 |some (.ret v,s)=>match flat v&&!s.wr.testBit G.g with
  |true=>some v
  |false=>none
 |_=>none
def pureG (P:Program) (G:GV) (fs:Nat→Bool) (ext:ACall→ACall) (lf k:Nat):ACall→ACall:=fun _ f args s=>match f with
 |.func g=>match fs g with
  |true=>nzA args.toList fun l=>match l.all flat&&isG G s with
   |true=>match pureVG P G ext lf k g l with
    |some v=>sq (s.rd|||bit G.g) fun rd=>some (.ret v,{s with rd:=rd})
    |none=>none
   |false=>none
  |false=>none
 |_=>none
theorem pureG_ok {G:GV} (hGn:G.g<G.n0) (hG:G.g<n0) {ext:ACall→ACall} (hx:ExtOK P G.n0 ext) (hm:P.follows .mixedOrders=true) (fs:Nat→Bool) (k:Nat):ExtOK P n0 (pureG P G fs ext lf k):=fun call _=>by
 have inv:∀{g:FuncId} {args:Array Value} {s:AS} {r:CO} {s':AS},pureG P G fs ext lf k call (.func g) args s=some (r,s')→s'={s with rd:=s.rd|||bit G.g}∧args.toList.all flat=true∧isG G s=true∧∃v s1,r= .ret v∧flat v=true∧s1.wr.testBit G.g=false∧acall P G.n0 ext lf k (.func g) args (gst G)=some (.ret v,s1):=fun {g args s r s'} h=>by
  unfold pureG at h
  dsimp only at h
  split at h<;>try cases h
  rw[nzA_eq]at h
  split at h<;>try cases h
  next hf=>
  rw[Bool.and_eq_true]at hf
  split at h<;>try cases h
  next v hv=>
  rw[sq_eq]at h
  cases h
  unfold pureVG at hv
  split at hv<;>try cases hv
  next v2 s1 hc=>
  split at hv<;>cases hv
  next hfv=>
  rw[Bool.and_eq_true]at hfv
  exact⟨rfl,hf.1,hf.2,_,s1,rfl,hfv.1,by simpa using hfv.2,hc⟩
 refine⟨fun f args s r s' h=>?_,fun f args s r s' ρ W args' n h ha hp=>?_,fun l l' args s r s' ρ W args' h=>(by cases h)⟩
 ·cases f with
  |func g=>
   obtain⟨rfl,_⟩:=inv h
   exact grow_rd s _
  |_=>cases h
 ·obtain⟨rfl,hf,hg,v,s1,rfl,hfv,hwr,hc⟩:=inv h
  have hargs:args'=args:=by
   apply Array.ext
   ·exact ha.1.symm
   ·intro i h1 h2
    exact flat_eq (List.all_eq_true.1 hf _ (by simp)) (ha.2 i _ _ (Array.getElem?_eq_getElem h2) (Array.getElem?_eq_getElem h1))
  subst hargs
  obtain⟨_,hgi,hcap⟩:=isG_GIn hG hg hp (.inl (bit_self _ _))
  refine ((acall_ok hx hm k).ok _ _ _ _ _ _ W args' n hc (AV.refl hf) (gpm_pre (cap:=ρ.cap) hGn hgi hcap s1)).mono fun e W' he=>?_
  obtain⟨ρ',hpo,v',rfl,hv⟩:=he
  have hgo:∀x,x<W.heap.size→W'.heap[x]? =W.heap[x]?:=fun x hx=>hpo.fr x hx fun b hb=>by
   simp only [gpm]at hb
   split at hb
   ·rename_i e;rw[e];exact hwr
   ·split at hb<;>cases hb
  refine⟨ρ,post_more ⟨hpo.os,hpo.tape,hpo.out,hpo.sz,hgo⟩ rfl rfl hp,v',rfl,?_⟩
  rw[flat_eq hfv hv]
  exact flat_VR hfv
def extG (P:Program) (G:GV) (fs:Nat→Bool) (base:ACall→ACall) (lf k:Nat):Nat→ACall→ACall
 |0=>base
 |d+1=>orX (pureG P G fs (extG P G fs base lf k d) lf k) base
theorem extG_ok {G:GV} (hGn:G.g<G.n0) {base:ACall→ACall} (hb:ExtOK P G.n0 base) (hm:P.follows .mixedOrders=true) (fs:Nat→Bool) (k:Nat):∀d,ExtOK P G.n0 (extG P G fs base lf k d)
 |0=>hb
 |d+1=>orX_ok (pureG_ok hGn hGn (extG_ok hGn hb hm fs k d) hm fs k) hb
end
end
end
section
open Go.RowKit (Below)
noncomputable section
structure CopyLaw (P:Program) (f:Nat):Prop where
 ok:∀(W:World) (g r:Nat) es cl es2 cl2 (ys zs:List Int),g≠r→W.heap[g]? =some (.map es cl)→KsR ys es cl→ys.Nodup→W.heap[r]? =some (.map es2 cl2)→KsR zs es2 cl2→zs.Nodup→Calls P f #[.map (some g),.map (some r)] W fun e W'=>e= .returned (.tuple #[])∧(∃es' cl' us,W'.heap[g]? =some (.map es' cl')∧KsR us es' cl'∧us.Nodup∧∀x,x∈us↔x∈ys∨x∈zs)∧W.grownBy W' (some g)
structure RisingLaw (P:Program) (f T:Nat):Prop where
 cells:P.cellsOf T=1
 nil:∀(W:World) (b cl:Nat),W.heap[b]? =some (.map #[] cl)→Calls P f #[.map (some b)] W fun e W'=>e= .returned (.slice none 0 0)∧Below W.heap.size W W'
 row:∀(W:World) (b:Nat) es cl (ys:List Int),W.heap[b]? =some (.map es cl)→KsR ys es cl→ys.Nodup→ys≠[]→ys.length≤1000000→(∀y∈ys,0≤y∧y<1000000000)→Calls P f #[.map (some b)] W fun e W'=>∃g cap cur,∃l:List Int,e= .returned (.slice (some ⟨g,0,none⟩) l.length cap)∧W.heap.size≤g∧W'.heap[g]? =some (.cells cur T (0,0))∧l.length≤cap∧cur.size=cap∧cur.toList.take l.length=l.map (Value.int .i64)∧l.Perm ys∧l.Pairwise (·≤·)∧Below W.heap.size W W'
def factOK (tn tv d:Nat):List MapEntry→List Nat→Nat→Nat→Bool
 |[],_,n,cl=>Nat.ble n cl
 |e::r,ks,n,cl=>match e.key,e.val with
  |.int .i64 (.ofNat k),.iface t (.int .i64 m)=>Nat.ble n e.born&& !(ks.any (Nat.beq k))&&(Nat.beq t tn||(Nat.beq t tv&&(match m with|.ofNat m=> !Nat.beq m d|_=>true)))&&factOK tn tv d r (k::ks) (e.born+1) cl
  |_,_=>false
structure ForgetLaw (P:Program) (f tn tv:Nat):Prop where
 ok:∀(W:World) (r:Nat) es cl (d:Nat),W.heap[r]? =some (.map es cl)→factOK tn tv d es.toList [] 0 cl=true→Calls P f #[.map (some r),.int .i64 (.ofNat d)] W fun e W'=>e= .returned (.tuple #[])∧W'.heap[r]? =some (.map ⟨es.toList.filter fun e=> !isKn d e.key⟩ cl)∧W.grownBy W' (some r)
def allNat:List Value→Bool
 |[]=>true
 |v::r=>match v with
  |.int .i64 (.ofNat n)=>allNat r
  |_=>false
def sUni (l:List Value):List Value→List Value
 |[]=>l
 |v::r=>match v with
  |.int .i64 (.ofNat n)=>sIns n (sUni l r)
  |_=>sUni l r
def copyX (fc:Nat):ACall→ACall:=fun _ f args s=>match f with
 |.func g=>match Nat.beq g fc with
  |true=>match args.toList with
   |[d,x]=>match setAt s d,setAt s x with
    |some (b,l),some (c,m)=>match !Nat.beq b c&&allNat m with
     |true=>sqL (sUni l m) fun l=>sq (s.rd|||bit c) fun rd=>sq (s.wr|||bit b) fun wr=>some (.ret (.tuple #[]),{s with heap:=s.heap.set b (some (setOb l)),rd:=rd,wr:=wr})
     |false=>none
    |_,_=>none
   |_=>none
  |false=>none
 |_=>none
def ascN:Nat→List Value→Bool
 |_,[]=>true
 |n,v::r=>match v with
  |.int .i64 (.ofNat m)=>Nat.ble n m&&Nat.blt m 1000000000&&ascN (m+1) r
  |_=>false
def risingX (fr T:Nat):ACall→ACall:=fun _ f args s=>match f with
 |.func g=>match Nat.beq g fr with
  |true=>match args.toList with
   |[x]=>match setAt s x with
    |some (b,l)=>match l with
     |[]=>sq (s.rd|||bit b) fun rd=>some (.ret (.slice none 0 0),{s with rd:=rd})
     |_=>match ascN 0 l&&Nat.ble l.length 1000000 with
      |true=>sq l.length fun n=>sq (s.next+1) fun nx=>sq (s.rd|||bit b) fun rd=>some (.ret (.slice (some ⟨s.next,0,none⟩) n LOO),{s with heap:=s.heap.set s.next (some (.cells ⟨l⟩ T (0,0))),next:=nx,rd:=rd})
      |false=>none
    |none=>none
   |_=>none
  |false=>none
 |_=>none
def flatE (e:MapEntry):Bool:=flat e.key&&flat e.val
def forgetX (ff tn tv:Nat):ACall→ACall:=fun _ f args s=>match f with
 |.func g=>match Nat.beq g ff with
  |true=>match args.toList with
   |[.map (some r),.int .i64 (.ofNat d)]=>match s.heap.get r with
    |some (.map es cl)=>match factOK tn tv d es.toList [] 0 cl&&es.toList.all flatE with
     |true=>sq (s.wr|||bit r) fun wr=>some (.ret (.tuple #[]),{s with heap:=s.heap.set r (some (.map ⟨es.toList.filter fun e=> !isKn d e.key⟩ cl)),wr:=wr})
     |false=>none
    |_=>none
   |_=>none
  |false=>none
 |_=>none
section
variable {P:Program} {n0:Nat} {ρ:PM} {s s':AS} {W:World}
theorem post_row {ob ob':Obj} {rd g:Nat} {W1:World} (hp:Pre P n0 ρ s {heap:=s.heap.set s.next (some ob),next:=s.next+1,rd:=rd,wr:=s.wr} W) (hrd:∀b,s.rd.testBit b=true→rd.testBit b=true) (hb:Below W.heap.size W W1) (hg:W.heap.size≤g) (hat:W1.heap[g]? =some ob') (ho:OR ρ ob ob'):
  ∃ρ',PLe ρ ρ'∧ρ' s.next= .live g∧ρ'.cap s.next=ocap P ob'∧Post P ρ s {heap:=s.heap.set s.next (some ob),next:=s.next+1,rd:=rd,wr:=s.wr} W ρ' W1:=by
 have hab:ρ s.next= .abs:=hp.fresh _ (Nat.le_refl _) (by show s.next<s.next+1;omega)
 have hle:PLe ρ ⟨fun b=>if b=s.next then .live g else ρ b,fun b=>if b=s.next then ocap P ob' else ρ.cap b⟩:=by
  refine⟨fun b=>?_,fun b hb=>?_⟩
  ·by_cases e:b=s.next
   ·exact .inl (e▸hab)
   ·simp only[if_neg e];exact (PLe.refl ρ).at_ b
  ·have:b≠s.next:=fun e=>hb (e▸hab)
   simp only[if_neg this]
 have hgl:g<W1.heap.size:=(Array.getElem?_eq_some_iff.1 hat).1
 have hsz:=hb.size
 refine⟨_,hle,by simp,by simp,hle,fun b h1 h2=>?_,fun b x h1 h2=>?_,⟨fun b c x h1 h2=>?_,fun b x h1=>?_⟩,fun b hbb=>?_,fun x hx _=>hb.block x hx,hsz,hb.os,hb.tape,hb.output,fun b x k1 k2 k3=>?_⟩
 ·by_cases e:b=s.next
  ·subst e;exact⟨Nat.le_refl _,Nat.lt_succ_self _⟩
  ·simp only[if_neg e]at h2;exact absurd h1 h2
 ·by_cases e:b=s.next
  ·rw[e,hab]at h1;cases h1
  ·simp only[if_neg e]at h2;rw[h1]at h2;cases h2
 ·dsimp only at h1 h2
  split at h1<;>split at h2
  ·rename_i e1 e2;rw[e1,e2]
  ·cases h1;have:=hp.inj.lt _ _ h2;omega
  ·cases h2;have:=hp.inj.lt _ _ h1;omega
  ·exact hp.inj.inj b c x h1 h2
 ·dsimp only at h1
  split at h1
  ·cases h1;exact hgl
  ·have:=hp.inj.lt _ _ h1;omega
 ·by_cases e:b=s.next
  ·subst e
   refine .inr (.inr ⟨g,ob,ob',by simp,by rw[Tr.get_set,if_pos rfl],hat,ho.mono hle,by simp⟩)
  ·have hbb:AS.tch {heap:=s.heap.set s.next (some ob),next:=s.next+1,rd:=rd,wr:=s.wr} b:=hbb.resolve_right fun h=>e (by have h1:=h.1;have h2:b<s.next+1:=h.2;omega)
   show _∨(_∧(s.heap.set s.next (some ob)).get b=none)∨_
   rw[Tr.get_set,if_neg e]
   simp only[if_neg e]
   rcases hp.wr b hbb with k|k|⟨x,p,p',k1,k2,k3,k4,k5⟩
   ·exact .inl k
   ·exact .inr (.inl k)
   ·exact .inr (.inr ⟨x,p,p',k1,k2,(hb.block x (hp.inj.lt _ _ k1)).trans k3,k4.mono hle,k5⟩)
 ·by_cases e:b=s.next
  ·simp only[if_pos e]at k2;cases k2;omega
  ·simp only[if_neg e]at k2;rw[k1]at k2;cases k2
theorem av1 {x:Value} {args':Array Value} (h:AV ρ #[x] args'):∃y,args'= #[y]∧VR ρ x y:=by
 obtain⟨l⟩:=args'
 have hl:l.length=1:=h.1.symm
 obtain⟨y,rfl⟩:=List.length_eq_one_iff.1 hl
 exact⟨y,rfl,h.2 0 _ _ rfl rfl⟩
theorem av2 {x x2:Value} {args':Array Value} (h:AV ρ #[x,x2] args'):∃y y2,args'= #[y,y2]∧VR ρ x y∧VR ρ x2 y2:=by
 obtain⟨l⟩:=args'
 have hl:l.length=2:=h.1.symm
 match l,hl with
 |[y,y2],_=>exact⟨y,y2,rfl,h.2 0 _ _ rfl rfl,h.2 1 _ _ rfl rfl⟩
theorem sUni_perm {l:List Value} {ys:List Int} (hn:ys.Nodup) (h:l.Perm (ys.map (Value.int .i64))):∀m:List Value,allNat m=true→∃us:List Int,us.Nodup∧(sUni l m).Perm (us.map (Value.int .i64))∧∀x,x∈us↔x∈ys∨Value.int .i64 x∈m
 |[],_=>⟨ys,hn,h,fun x=>by simp⟩
 |v::r,hm=>by
  unfold allNat at hm
  split at hm<;>try cases hm
  next n=>
  obtain⟨us,h1,h2,h3⟩:=sUni_perm hn h r hm
  refine⟨insL (.ofNat n) us,nodup_insL h1,by unfold sUni;exact sIns_perm h2,fun x=>?_⟩
  rw[mem_insL,h3,List.mem_cons]
  constructor
  ·rintro (rfl|h|h)
   ·exact .inr (.inl rfl)
   ·exact .inl h
   ·exact .inr (.inr h)
  ·rintro (h|h|h)
   ·exact .inr (.inl h)
   ·cases h;exact .inl rfl
   ·exact .inr (.inr h)
theorem copyX_ok {fc:Nat} (hA:CopyLaw P fc):ExtOK P n0 (copyX fc):=fun call _=>by
 refine⟨fun f args s r s' h=>?_,fun f args s r s' ρ W args' n h ha hp=>?_,fun l l' args s r s' ρ W args' h=>(by cases h)⟩
 ·unfold copyX at h
  split at h<;>try cases h
  split at h<;>try cases h
  split at h<;>try cases h
  split at h<;>try cases h
  split at h<;>try cases h
  rw[sqL_eq,sq_eq,sq_eq]at h
  cases h
  exact (grow_rd s _).trans (grow_wr {s with rd:=_} _ _)
 ·unfold copyX at h
  dsimp only at h
  split at h<;>try cases h
  next hf=>
  have hf:f=fc:=Nat.eq_of_beq_eq_true hf
  subst hf
  split at h<;>try cases h
  next d x hargs=>
  have hargs:args= #[d,x]:=by rw[←Array.toArray_toList (xs:=args),hargs]
  subst hargs
  split at h<;>try cases h
  next b l c m hs1 hs2=>
  split at h<;>try cases h
  next hk=>
  rw[Bool.and_eq_true]at hk
  rw[sqL_eq,sq_eq,sq_eq]at h
  cases h
  obtain⟨d',x',rfl,vd,vx⟩:=av2 ha
  obtain⟨_,u,es,cl,ys,rfl,hl,hu,hc,hn,hp1,hks⟩:=setAt_real hs1 vd hp (.inr (bit_self _ _))
  obtain⟨_,u2,es2,cl2,zs,rfl,hl2,hu2,hc2,hn2,hp2,hks2⟩:=setAt_real hs2 vx hp (.inl (bit_self _ _))
  have hbc:b≠c:=fun e=>by have:=hk.1;rw[e,Nat.beq_refl]at this;cases this
  refine (callsIn_wide.2 (hA.ok W u u2 es cl es2 cl2 ys zs (fun e=>hbc (hp.inj.inj b c _ hl (by rw[hl2,e]))) hu hks hn hu2 hks2 hn2)).mono fun e W' he=>?_
  obtain⟨rfl,⟨es',cl',us,k1,k2,k3,k4⟩,hg⟩:=he
  obtain⟨vs,m1,m2,m3⟩:=sUni_perm hn hp1 m hk.2
  have hpp:(sUni l m).Perm (us.map (Value.int .i64)):=m2.trans (((List.perm_ext_iff_of_nodup m1 k3).2 fun x=>by
   rw[m3,k4]
   refine or_congr Iff.rfl ?_
   rw[hp2.mem_iff,List.mem_map]
   constructor
   ·rintro⟨a,ha,e⟩;cases e;exact ha
   ·exact fun h=>⟨_,h,rfl⟩).map _)
  exact⟨ρ,post_obj (ob':=.map es' cl') (o0:=.map es cl) hl hc (set_or k3 hpp k2) k1 hg.size (fun y hy hne=>hg.block y hy (fun e=>hne (Option.some.inj e))) hg.os hg.tape hg.output hp,_,rfl,.tuple rfl fun i v v' h=>by simp at h⟩
theorem ascN_eq:∀(l:List Value) (n:Nat),ascN n l=true→∃ns:List Int,l=ns.map (Value.int .i64)∧ns.Pairwise (·≤·)∧∀x∈ns,(n:Int)≤x∧x<1000000000
 |[],_,_=>⟨[],rfl,.nil,by simp⟩
 |v::r,n,h=>by
  unfold ascN at h
  split at h<;>try cases h
  next m=>
  simp only[Bool.and_eq_true]at h
  obtain⟨⟨h1,h2⟩,h3⟩:=h
  have h1:=Nat.le_of_ble_eq_true h1
  have h2:m<1000000000:=Nat.le_of_ble_eq_true h2
  obtain⟨ns,rfl,k1,k2⟩:=ascN_eq r (m+1) h3
  refine⟨.ofNat m::ns,rfl,.cons (fun x hx=>?_) k1,fun x hx=>?_⟩
  ·have:=(k2 x hx).1
   show (m:Int)≤x
   omega
  ·rcases List.mem_cons.1 hx with rfl|hx
   ·show (n:Int)≤(m:Int)∧(m:Int)<_
    omega
   ·have:=k2 x hx
    omega
theorem sorted_eq:∀(l m:List Int),l.Perm m→l.Pairwise (·≤·)→m.Pairwise (·≤·)→l=m
 |[],m,h,_,_=>(h.nil_eq)
 |a::l,[],h,_,_=>by have:=h.length_eq;simp at this
 |a::l,b::m,h,h1,h2=>by
  have ha:a∈b::m:=h.subset (List.mem_cons_self ..)
  have hb:b∈a::l:=h.symm.subset (List.mem_cons_self ..)
  rw[List.pairwise_cons]at h1 h2
  have e:a=b:=by
   rcases List.mem_cons.1 ha with e|ha
   ·exact e
   ·rcases List.mem_cons.1 hb with e|hb
    ·exact e.symm
    ·exact Int.le_antisymm (h1.1 b hb) (h2.1 a ha)
  subst e
  rw[sorted_eq l m ((List.perm_cons _).1 h) h1.2 h2.2]
theorem risingX_ok {fr T:Nat} (hA:RisingLaw P fr T):ExtOK P n0 (risingX fr T):=fun call _=>by
 refine⟨fun f args s r s' h=>?_,fun f args s r s' ρ W args' n h ha hp=>?_,fun l l' args s r s' ρ W args' h=>(by cases h)⟩
 ·unfold risingX at h
  split at h<;>try cases h
  split at h<;>try cases h
  split at h<;>try cases h
  split at h<;>try cases h
  split at h<;>try cases h
  ·rw[sq_eq]at h;cases h;exact grow_rd s _
  ·split at h<;>try cases h
   rw[sq_eq,sq_eq,sq_eq]at h
   cases h
   exact (grow_rd s _).trans (grow_new {s with rd:=_} _)
 ·unfold risingX at h
  dsimp only at h
  split at h<;>try cases h
  next hf=>
  have hf:f=fr:=Nat.eq_of_beq_eq_true hf
  subst hf
  split at h<;>try cases h
  next x hargs=>
  have hargs:args= #[x]:=by rw[←Array.toArray_toList (xs:=args),hargs]
  subst hargs
  split at h<;>try cases h
  next b l hs1=>
  obtain⟨x',rfl,vx⟩:=av1 ha
  have key:s'.rd.testBit b=true→∃u es cl ys,x'= .map (some u)∧ρ b= .live u∧W.heap[u]? =some (.map es cl)∧ys.Nodup∧l.Perm (ys.map (Value.int .i64))∧KsR ys es cl:=fun hm=>by
   obtain⟨_,u,es,cl,ys,h1,h2,h3,_,h4,h5,h6⟩:=setAt_real hs1 vx hp (.inl hm)
   exact⟨u,es,cl,ys,h1,h2,h3,h4,h5,h6⟩
  split at h<;>try cases h
  ·rw[sq_eq]at h
   cases h
   obtain⟨u,es,cl,ys,rfl,hl,hu,hn,hp1,hks⟩:=key (bit_self _ _)
   have hy:ys=[]:=by simpa using hp1.nil_eq.symm
   subst hy
   have he:es= #[]:=by
    have:=hks.1
    simpa using this
   subst he
   refine (callsIn_wide.2 (hA.nil W u cl hu)).mono fun e W' he=>?_
   obtain⟨rfl,hb⟩:=he
   exact⟨ρ,post_more hb rfl rfl hp,_,rfl,.sl0 _ _⟩
  ·next hne=>
   split at h<;>try cases h
   next hk=>
   rw[Bool.and_eq_true]at hk
   rw[sq_eq,sq_eq,sq_eq]at h
   cases h
   obtain⟨u,es,cl,ys,rfl,hl,hu,hn,hp1,hks⟩:=key (bit_self _ _)
   obtain⟨ns,rfl,q1,q2⟩:=ascN_eq l 0 hk.1
   have hlen:=Nat.le_of_ble_eq_true hk.2
   have hpe:ns.Perm ys:=by
    have:=hp1.map (fun v=>match v with|.int _ x=>x|_=>0)
    simpa [List.map_map,Function.comp_def] using this
   refine (callsIn_wide.2 (hA.row W u es cl ys hu hks hn (fun e=>hne (by subst e;rw[hpe.eq_nil];rfl)) (by rw[←hpe.length_eq];simpa using hlen) (fun y hy=>by have:=q2 y (hpe.symm.subset hy);omega))).mono fun e W' he=>?_
   obtain⟨g,cap,cur,l2,rfl,k1,k2,k3,k4,k5,k6,k7,hb⟩:=he
   have e2:ns=l2:=sorted_eq ns l2 (hpe.trans k6.symm) q1 k7
   subst e2
   obtain⟨ρ',p1,p2,p3,p4⟩:=post_row (g:=g) (ob':=.cells cur T (0,0)) hp (fun b h=>or_l h) hb k1 k2 (.cells T (by show (ns.map (Value.int .i64)).length≤_;rw[List.length_map];omega) fun i v v' hi hi'=>by
    have h1:(ns.map (Value.int .i64))[i]? =some v:=by simpa using hi
    rw[←k5,List.getElem?_take]at h1
    split at h1
    ·rw[Array.getElem?_toList,hi']at h1
     cases h1
     have h2:(ns.map (Value.int .i64))[i]? =some v:=by simpa using hi
     rw[List.getElem?_map]at h2
     obtain⟨z,_,rfl⟩:=Option.map_eq_some_iff.1 h2
     exact .int _ _
    ·cases h1)
   refine⟨ρ',p4,_,rfl,?_⟩
   rw[List.length_map]
   refine .sl (AR.mk (.inr p2) rfl rfl) (.inr ⟨rfl,k3,fun _=>?_⟩)
   show cap=ρ'.cap s.next
   rw[p3]
   show cap=cur.size/P.cellsOf T
   rw[hA.cells,Nat.div_one,k4]
theorem forgetX_ok {ff tn tv:Nat} (hA:ForgetLaw P ff tn tv):ExtOK P n0 (forgetX ff tn tv):=fun call _=>by
 refine⟨fun f args s r s' h=>?_,fun f args s r s' ρ W args' n h ha hp=>?_,fun l l' args s r s' ρ W args' h=>(by cases h)⟩
 ·unfold forgetX at h
  split at h<;>try cases h
  split at h<;>try cases h
  split at h<;>try cases h
  split at h<;>try cases h
  split at h<;>try cases h
  rw[sq_eq]at h
  cases h
  exact grow_wr s _ _
 ·unfold forgetX at h
  dsimp only at h
  split at h<;>try cases h
  next hf=>
  have hf:f=ff:=Nat.eq_of_beq_eq_true hf
  subst hf
  split at h<;>try cases h
  next r d hargs=>
  have hargs:args= #[.map (some r),.int .i64 (.ofNat d)]:=by rw[←Array.toArray_toList (xs:=args),hargs]
  subst hargs
  split at h<;>try cases h
  next es cl hg=>
  split at h<;>try cases h
  next hk=>
  rw[Bool.and_eq_true]at hk
  rw[sq_eq]at h
  cases h
  obtain⟨x',d',rfl,vx,vd⟩:=av2 ha
  cases vd
  cases vx with
  |map hb=>
  rename_i u
  obtain⟨hl,o',ho',hor,hc⟩:=BR.live hp.wr hb (.inr (bit_self _ _)) hg
  cases hor with
  |map _ hes=>
  rename_i es'
  have hfl:=List.all_eq_true.1 hk.2
  have hee:es'=es:=by
   apply Array.ext hes.1.symm
   intro i h1 h2
   have hr:=hes.2 i _ _ (Array.getElem?_eq_getElem h2) (Array.getElem?_eq_getElem h1)
   have hf:=hfl es[i] (by simp)
   unfold flatE at hf
   rw[Bool.and_eq_true]at hf
   obtain⟨q1,q2,q3⟩:=hr
   have q1:=flat_eq hf.1 q1
   have q2:=flat_eq hf.2 q2
   generalize es'[i]=p at *
   generalize es[i]=q at *
   cases p;cases q
   simp_all
  subst hee
  refine (callsIn_wide.2 (hA.ok W u es' cl d ho' hk.1)).mono fun e W' he=>?_
  obtain⟨rfl,k1,hg2⟩:=he
  refine⟨ρ,post_obj (m:=s.rd) (o0:=.map es' cl) (ob:=.map ⟨es'.toList.filter fun e=> !isKn d e.key⟩ cl) (ob':=.map ⟨es'.toList.filter fun e=> !isKn d e.key⟩ cl) hl hc (.map _ ⟨rfl,fun i v v' h1 h2=>?_⟩) k1 hg2.size (fun y hy hne=>hg2.block y hy (fun e=>hne (Option.some.inj e))) hg2.os hg2.tape hg2.output hp,_,rfl,.tuple rfl fun i v v' h=>by simp at h⟩
  rw[h1]at h2
  cases h2
  have hm:v∈es'.toList:=by
   have:=List.mem_of_getElem? (l:=es'.toList.filter fun e=> !isKn d e.key) (i:=i) (a:=v) (by simpa using h1)
   exact (List.mem_filter.1 this).1
  have hf:=hfl v hm
  unfold flatE at hf
  rw[Bool.and_eq_true]at hf
  exact⟨flat_VR hf.1,flat_VR hf.2,rfl⟩
end
end
end
end Go.Proofs.YtngglbakkedaiaaGreatDoor
