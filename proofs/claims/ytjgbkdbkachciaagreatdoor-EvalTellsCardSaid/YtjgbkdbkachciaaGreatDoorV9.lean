import Derived.Test.YtjgbkdbkachciaaGreatDoorV7
import Derived.Sort.OwnSorted
import Derived.OrdersIn
set_option linter.all false
namespace Go.Proofs.YtjgbkdbkachciaaGreatDoor
set_option maxRecDepth 100000
set_option maxHeartbeats 16000000
section
open Go.RowKit Go.Shelf
attribute [local go_sem] Oper.semAt_some
theorem ags (a:Option Addr) (n c:Nat) (w:World):
  Calls Tryz.prog 83 #[.slice a n c] w λe w'=>e= .returned (.func (.func 123) #[] #[.pointer (some (w,0))])/\w'=w.alloc (.cells #[.slice a n c] 49):=by
 have s9:∀(fn:Fn) (first cap:Array Value) (w:World),(Instr.makeFunc fn first cap).run Tryz.prog w= .ok (.func fn first cap) w:=λ_ _ _ _=>rfl;go_enter Tryz.func83,Tryz.ntmps83;go_wp2;go_ret;exact⟨rfl,rfl⟩
theorem ae7 (F:Fence) (n n₀:Nat) (alH:F.fn 123) (hro:F.round=none) (hn:1<=n) (B:Nat->Prop) (W0:World) (hn0:n₀=W0.heap.size) (v:Value) (ls:List aK) (hv:aP B 1 dc W0 v ls) (w:World) (bl:Nat) (hb:Below n₀ W0 w) (hl:Row w bl 49 [v]):
  SeqStopsK F n Tryz.prog 123 #[.pointer (some (bl,0))] (λx:aK=> #[S x]) (Below n₀) (λys=>ys=ls) (λ_=>True) ls.length w:=by
 intro l J Jx W hW hJ Wm hY h0;have hl':=hl.ext hW;have c0:=hl'.cell 0;simp only[af]at c0;have HB:Hid (Below n₀ W0 W):=hb.trans (hW.mono (iZ hb.size));obtain⟨a0,c0',rfl,hlen, -⟩:=id hv;have HV:=aF hv;have HY:=aF hY;have HJ0:=aF h0;have GU:=aF hn0;clear hl hl' hY hJ Wm h0 hb hW hv hn0;refine callsIn_of_wp Tryz.func123 rfl alH ?_ hro;simp only[Tryz.ntmps123,List.size_toArray,aq,au,Nat.reduceAdd,Nat.reduceSub,Array.replicate_succ,Array.replicate_zero,List.push_toArray,List.append_toArray,List.nil_append,List.cons_append]
 gi_wp2
 clear c0
 gi_loopg [7] ls.length (λgh i wr=>∃k:Nat,gh+k=ls.length/\i=I k/\Hid (J (ls.take k) wr/\Below n₀ W0 wr))
 case atStart=>exact⟨0,rfl,rfl,aF ⟨HJ0,HB⟩⟩
 case round=>
  obtain⟨k,hg,rfl,HH⟩:=hrel;obtain⟨wo,rfl⟩:=xq wr;by_cases hlt:k<ls.length
  ·have bT:(k:Int)<(ls.length:Int):=aG;obtain⟨b,o,C,rfl,_,hC,hrx⟩:=HV.at hlt;have e0:=(HH.out.2.cell (by rw[GU.out];exact World.block_lt_of_cell? W0 _ (hC 0 aG))).trans (hC 0 aG);rw[show C 0=S ls[k]from hrx]at e0;simp only[aA,Nat.mul_one]at e0;have⟨x,hx⟩:=xq (ls[k]);rw[<-hx]at e0;have hy:=HY (ls.take k) x wo HH.out.1 (by rw[List.length_take];omega);obtain⟨fn,tmps,assign,body,vM,hR⟩:=hy;have fL:=aF (show ls.take (k+1)=ls.take k++ [x] by rw[List.take_succ_eq_append_getElem hlt,hx]);clear hC hrx hx
   gi_wp2
   refine hR.mono ?_;rintro e W3 (⟨rfl,hJ3,hk3⟩|⟨rfl,alI⟩)
   ·have gy:=aF (HH.out.2.trans hk3);have HJ3:=aF hJ3;clear hk3 hJ3 e0
    gi_wp2
    gi_roundg (ls.length - (k+1))
    case measure=>omega
    case rel=>exact⟨k+1,aG,by go_num,aF ⟨by rw[fL.out];exact HJ3.out,gy⟩⟩
   ·gi_wp2
    refine bodyPost_ret (results_none rfl _ _ _) rfl ?_;exact⟨⟨_,rfl⟩, .inr ⟨_,trivial,alI⟩⟩
  ·have bT: ¬(k:Int)<(ls.length:Int):=aG
   gi_wp2
   go_end0;have hjl:=HH.out.1;rw[List.take_of_length_le (show ls.length<=k by omega)]at hjl;exact⟨⟨_,rfl⟩, .inl hjl⟩
theorem QW (l:List aK):l.flatMap fR=l.map S:=by
 induction l with
 |nil=>rfl
 |cons x l ih=>rw[List.flatMap_cons,ih];rfl
theorem ae8 (F:Fence) (n n₀:Nat) (Ug:F.fn 181) (hro:F.round=none) (hn:2<=n) (g:Nat) (lb:Array Value) (hFg:F.fn g) (eg:∀args w,(callFunc g args).run Tryz.prog w= .ok (.enter g args) w)
  (Sq Sp:List aK->Prop) (N:Nat) (hN:N<=1000000000000) (w:World) (hn0:n₀<=w.heap.size) (hseq:SeqStopsK F (n - 1) Tryz.prog g lb (λx:aK=> #[S x]) (Below n₀) Sq Sp N w):
  CallsIn F n Tryz.prog 181 #[.slice none 0 0, .func (.func g) #[] lb] w λe w'=>∃(v:Value) (ss:List aK),e= .returned v/\Sq ss/\a_ 1 9 fR w' w.heap.size v ss/\Below w.heap.size w w':=by
 have h1:1<=n:=aG;obtain⟨i0,z0,hi,hz0,hz1,hz2,hz3⟩:=wu.hi;refine callsIn_of_wp_marks Tryz.func181 rfl Ug ?_ hro;simp only[Tryz.ntmps181,List.size_toArray,aq,au,Nat.reduceAdd,Nat.reduceSub,Array.replicate_succ,Array.replicate_zero,List.push_toArray,List.append_toArray,List.nil_append,List.cons_append]
 gi_wp2
 have bS:=Boxed.new w 49 (.slice none 0 0);have hB0:Below w.heap.size w (w.alloc (.cells #[.slice none 0 0] 49)):=cm _ _;refine wpIn_rangeFunc_ownG hro h1 (gf:=g) (lb:=lb) rfl hFg eg hseq belowK_t (belowK_b ct) hB0 (λ_=>rfl)
  (λpre W=>(∃v,Boxed W w.heap.size 49 v/\W.ownsRow w.heap.size 9 1 v pre.length (pre.map S)/\True)/\(Below w.heap.size w W/\pre.length<=N))
  (λ_ _ _=>False)
  (OwnFrom.and (Own.from (holdsRow_own _ _ _ _ _ _ _ _) _) (OwnFrom.and (ownFrom_below fQ aH) (ownFrom_pure _ _)))
  (λ_ _ _ _ _ hs _ _=>hs)
  ⟨⟨_,bS,⟨rfl, .inl ⟨rfl,rfl⟩⟩,trivial⟩,hB0,aH⟩
  (λx=>{tmps:= #[.slice none 0 0, .func (.func g) #[] lb, .pointer (some (w.heap.size,0)),undef, .slice none 0 0,S x, .func (.func g) #[] lb,S x,undef,undef,undef,undef,undef],defers:= []}) ?assign ?body ?done ?stop
 case assign=>
  intro l x W K hK
  gi_wp2
  exact hK
 case body=>
  rintro l pre x W⟨⟨v,hv,hrow,_⟩,hB,hlen⟩ hlt;have hcv:=hv.cell
  gi_wp2_with (first|(gi_at_builtin;refine wpListIn_append_own _ rfl _ _ 49 rfl w.heap.size 9 i0 z0 1 16 Tryz.underlying49 hi hz0 hz1 hz2 hz3 aQ _ _ _ rfl (hrow.alloc _) (W,0) 1 1 [S x] rfl rfl (cell_one_new _ _ _) sv0 (by unfold maxLen;omega) aG (by have:=hB.size;simp;omega) ?_;intro v' w1 hown' hgrow _;obtain⟨g',cap',rfl⟩:=ownsRow_succ hown';obtain⟨hv1,hv2,hr2,hk2,hb2⟩:=hv.appended aQ hrow hB.size fQ hown' hgrow;have hc1:=hv1.cell;have yz:=hv1.frozen;have ko:=aF hv2;have cB:=aF hr2;have jr:=aF hk2;have aM:=aF hb2;clear hv2 hr2 hk2 hb2 hown' hgrow hv1)|gi_in)
  exact⟨(KeepsOthers.from jr.out _),aM.mono hn0,⟨⟨_,ko,by simpa using cB.out,trivial⟩,hB.trans aM.out,ct⟩⟩
 case done=>
  rintro D ss W hD hS⟨⟨v,hv,hrow,_⟩,hB,hlen⟩ hK;have hcv:=hv.cell
  gi_wp2
  refine⟨aH, .inl ⟨_,_,rfl,run_takeDeferred hK, ?_⟩⟩;exact⟨_,results_tmp rfl _ _ _,v,ss,rfl,hS,by unfold a_;rw[QW];exact ownsRow_putObj hrow _ hK rfl,hB.trans (belowK_b (w:=w) fQ W D _ _ (by simp at hD;omega) hK rfl rfl)⟩
 case stop=>
  rintro D c pre W _ _ h _;exact h.elim
theorem afN (F:Fence) (n n₀:Nat) (alJ:F.fn 121) (Ug:F.fn 181) (hro:F.round=none) (hn:3<=n) (g:Nat) (lb:Array Value) (hFg:F.fn g) (eg:∀args w,(callFunc g args).run Tryz.prog w= .ok (.enter g args) w)
  (Sq Sp:List aK->Prop) (N:Nat) (hN:N<=1000000000000) (w:World) (hn0:n₀<=w.heap.size) (hseq:SeqStopsK F (n - 1 - 1) Tryz.prog g lb (λx:aK=> #[S x]) (Below n₀) Sq Sp N w):
  CallsIn F n Tryz.prog 121 #[.func (.func g) #[] lb] w λe w'=>∃(v:Value) (ss:List aK),e= .returned v/\Sq ss/\a_ 1 9 fR w' w.heap.size v ss/\Below w.heap.size w w':=by
 have h1:1<=n:=aG;refine callsIn_of_wp Tryz.func121 rfl alJ ?_ hro;simp only[Tryz.ntmps121,List.size_toArray,aq,au,Nat.reduceAdd,Nat.reduceSub,Array.replicate_succ,Array.replicate_zero,List.push_toArray,List.append_toArray,List.nil_append,List.cons_append]
 gi_wp2_with (gi_at_call 181;refine(ae8 F (n - 1) n₀ Ug hro aG g lb hFg eg Sq Sp N hN _ hn0 hseq).mono ?_;rintro e w'⟨v,ss,rfl,hS,hrow,hb⟩)
 go_ret;exact⟨v,ss,rfl,hS,hrow,hb⟩
theorem afk (n₀ g:Nat) (lb:Array Value) (eg:∀args w,(callFunc g args).run Tryz.prog w= .ok (.enter g args) w) (Sq Sp:List aK->Prop) (N:Nat) (hN:N<=1000000000000) (w:World) (hn0:n₀<=w.heap.size)
  (hseq:SeqStopsK Fence.wide 4 Tryz.prog g lb (λx:aK=> #[S x]) (Below n₀) Sq Sp N w):
  Calls Tryz.prog 121 #[.func (.func g) #[] lb] w λe w'=>∃(v:Value) (ss:List aK),e= .returned v/\Sq ss/\a_ 1 9 fR w' w.heap.size v ss/\Below w.heap.size w w':=
 callsIn_wide.1 (afN Fence.wide 6 n₀ trivial trivial rfl aG g lb trivial eg Sq Sp N hN w hn0 hseq)
open Go.Sort in
def mP (l:List aK):List aK:=l.mergeSort λx y=>decide (x<=y)
theorem NI (l:List aK):(mP l).length=l.length:=(List.mergeSort_perm l _).length_eq
open Go.Sort in
theorem ag7 (base:Nat) (v:Value) (l:List aK) (w:World) (h:a_ 1 9 fR w base v l) (hl:l.length<=1000000000000):
  Calls Tryz.prog 122 #[v] w λe w'=>e= .returned (.tuple #[])/\a_ 1 9 fR w' base v (mP l)/\w.grownBy w' v.ownBlock:=by
 unfold a_ at h|-;rw[QW]at h|-;rcases h.2 with⟨rfl,h0⟩|⟨g,cap,cur,rfl,hg,hh,hc,hm,hs,ht⟩
 ·have:=List.eq_nil_of_length_eq_zero h0;subst this;refine(Tryz.slices_Sort_string_none _ _ w).mono ?_;rintro e w'⟨rfl,rfl⟩;exact⟨rfl,by simpa [mP]using h,⟨rfl,rfl,rfl,ay _,λ_ _ _=>rfl⟩⟩
 ·have hH:=holds_of_block (ss:=l) hh (by simpa using ht);refine(Tryz.slices_Sort_string g 0 cap l w hH (aD hh).1 aG).mono ?_;rintro e w'⟨rfl,n,os,rfl⟩;refine⟨rfl, ?_,grownBy_sorted _⟩;have:=ownsRow_sorted (n:=n) (os:=os) (ss:=l) (ts:=mP l) (NI l) hg hh hc hm hs;rw[NI];exact this
theorem afO (n₀ g:Nat) (lb:Array Value) (eg:∀args w,(callFunc g args).run Tryz.prog w= .ok (.enter g args) w) (l:List aK) (Sp:List aK->Prop) (hN:l.length<=1000000000) (w:World) (hn0:n₀<=w.heap.size)
  (hseq:SeqStopsK Fence.wide 4 Tryz.prog g lb (λx:aK=> #[S x]) (Below n₀) (λys=>ys=l) Sp l.length w):
  Calls Tryz.prog 82 #[.func (.func g) #[] lb] w λe w'=>∃v,e= .returned v/\a_ 1 9 fR w' w.heap.size v (mP l)/\Below w.heap.size w w':=by
 have HS:=aF (afk n₀ g lb eg _ _ _ aG w hn0 hseq);clear hseq;go_enter Tryz.func82,Tryz.ntmps82;go_wp2_with (first|(go_at_call 121;refine HS.mono ?_;rintro e w1⟨v1,ss,rfl,rfl,abI,hb1⟩;have fk:=aF abI;have aI:=aF hb1;clear abI hb1)|(go_at_call 122;refine(ag7 w.heap.size v1 ss _ fk aG).mono ?_;rintro e w2⟨rfl,LW,hg2⟩;have kX:=aF LW;have HG2:=aF hg2;clear LW hg2))
 go_ret;exact⟨v1,rfl,kX,aI.grown HG2 aI.size (λk hk=>(cO fk k hk).1)⟩
def nS (l:List aK):Bool:=decide ((Lib.compact (mP l)).length<l.length)
open Go.Sort in
theorem afl {w:World} {g q:Nat} (d:Array aK):w.grownBy (putRow encStr (Sort.ahead w q) g 0 d) (some g):=by
 refine⟨rfl,rfl,rfl,by simp [putRow,mapBlock,Sort.ahead],λk hk hne=> ?_⟩;have:g≠k:=λe=>hne (by rw[e]);simp [putRow,mapBlock,Sort.ahead,Array.getElem?_modify,this]
theorem JL (l:List aK) (v:Value) (w:World) (B:Nat->Prop) (hv:aP B 1 dc w v l) (hN:l.length<=1000000000):
  CR 49 #[v] w (.bool (nS l)):=by
 obtain⟨a0,c0,rfl, -⟩:=id hv;have hb1:=cm w (.cells #[.slice a0 l.length c0] 49);have eg:∀args w,(callFunc 123 args).run Tryz.prog w= .ok (.enter 123 args) w:=enters_of Tryz.func123 aL rfl;have BC:=aF (afO w.heap.size 123 #[.pointer (some ⟨w.heap.size,0,none⟩)] eg l (λ_=>True) hN (w.alloc (.cells #[.slice a0 l.length c0] 49)) aH
  (ae7 Fence.wide 4 w.heap.size trivial rfl aG B w rfl _ l hv _ w.heap.size hb1 hn0))
 have aI:=aF hb1;clear hv hb1 eg;have⟨sl,hsl⟩:=xq (mP l);have⟨n,hn⟩:=xq l.length;have hlen:sl.length=n:=by rw[hsl,NI,hn]
 have yI:nS l=decide ((Lib.compact sl).length<n):=by rw[hsl,hn];rfl
 rw[yI];have CP:n<=1000000000:=aG;rw[<-hsl,<-hn]at BC;rw[<-hn]at aI|-;clear yI hsl hn;go_enter Tryz.func49,Tryz.ntmps49;go_upto_region 2 with(first|(go_at_call 83;refine(ags _ _ _ _).mono ?_;rintro e w1⟨rfl,rfl⟩)|(go_at_call 82;refine BC.mono ?_;rintro e w2⟨v2,rfl,LW,hb2⟩;have aM:=aF (aI.out.trans (hb2.mono aH));have kX:=aF LW;clear LW hb2))
 have hs2:=kX.out;unfold a_ at hs2;rw[QW,hlen]at hs2;rcases hs2.2 with⟨rfl,h0⟩|⟨g,cap,cur,rfl,hg,hh,hc,hm,hs,ht⟩
 ·subst h0;have hs0:=List.eq_nil_of_length_eq_zero hlen;subst hs0;go_wp2_with (first|(go_at_call 85;refine(Tryz.slices_Clone_string_nil _ _ _).mono ?_;rintro e w3⟨rfl,rfl⟩)|(go_at_call 84;refine(Tryz.slices_Compact_string_empty _ _ _).mono ?_;rintro e w4⟨rfl,rfl⟩))
  go_ret;exact⟨rfl,aM.out⟩
 ·have hcl:∀j,j<(sl.map λx=>(⟨x.toArray⟩:ByteArray)).length->w2.cell? ⟨g,0+j,none⟩=some (.string ((sl.map λx=>(⟨x.toArray⟩:ByteArray)).getD j ByteArray.empty)):=λj hj=>by
   rw[Nat.zero_add,cell_of_block hh];have hj':j<sl.length:=by simpa using hj
   have h1:(cur.toList.take (n*1))[j]? =(sl.map S)[j]? :=by rw[ht]
   rw[List.getElem?_take_of_lt aG,Array.getElem?_toList]at h1;rw[h1];simp [hj',S]
  have hbig:n*16<=140737488355328:=aG;have oo:=aF (Tryz.slices_Clone_string g 0 n cap (sl.map λx=>(⟨x.toArray⟩:ByteArray)) w2 (by simp [hlen]) hbig hcl);clear hs2 hcl hs ht hh;have hzz:(sl.map λx=>(⟨x.toArray⟩:ByteArray)).take n=sl.map λx=>(⟨x.toArray⟩:ByteArray):=List.take_of_length_le (by simp [hlen]);rw[hzz]at oo;obtain⟨m,hm'⟩:∃m,m=(Lib.compact sl).length:=⟨_,rfl⟩;have HM:=aF hm';have HCP:=aF (λW g3 O3 LX (Qu:W.heap[g3]? =some (.cells LX 9 (0,0))) (hc3:n<=O3) (Bk:LX.toList.take (n*1)=(sl.map λx=>(⟨x.toArray⟩:ByteArray)).map Value.string)=>
   Tryz.slices_Compact_string g3 0 O3 sl W (holds_of_block (ss:=sl) Qu (by rw[hlen];rw[Nat.mul_one]at Bk;rw[Bk,List.map_map];rfl)) aG aG)
  rw[hlen,<-hm']at HCP;clear hzz hm';go_wp2_with (first|(go_at_call 85;refine oo.mono ?_;rintro e w3⟨v3,rfl,abJ,abK,hb3⟩;have aW:=aU aM hb3;obtain⟨g3,O3,LX,rfl,hg3,Qu,hc3,hm3,hs3,Bk⟩:=abJ.2.resolve_left (λh=>abK h.1);have hz2:=aM.size;have kT:=aF (HCP w3 g3 O3 LX Qu hc3 Bk);clear abJ abK Qu hc3 hm3 hs3 Bk hb3)|(go_at_call 84;refine kT.mono ?_;rintro e w4⟨rfl,q,rfl⟩))
  go_ret;refine⟨?_,aW.grown (afl _) aW.size bh⟩;rw[<-HM.out];have UR:decide (m<n)=decide ((m:Int)<(n:Int)):=by
   by_cases h:m<n
   ·simp [h]
   ·simp [h]
  rw[UR];rfl
end
section
open Go.RowKit
section
variable {F:Fence} {n:Nat} {P:Program} {ops:Array Oper} {Q:Exit->Act->World->Prop}
def Fq (l:Array Bool):Nat:=l.toList.countP (λb=> !b)
theorem ahv {l:Array Bool} {i:Nat} (hi:i<l.size) (h:l.getD i true=false):Fq (l.setIfInBounds i true)+1=Fq l:=by
 obtain⟨l⟩:=l;simp only[List.size_toArray]at hi;simp only[Fq,List.setIfInBounds_toArray];simp only[Array.getD_eq_getD_getElem?,List.getElem?_toArray]at h
 induction l generalizing i with
 |nil=>simp at hi
 |cons b l ih=>
  cases i with
  |zero=>
   simp at h;subst h;simp
  |succ i=>
   simp only[aq,Nat.add_lt_add_iff_right]at hi;simp only[ag]at h;have:=ih hi h;simp only[List.set_cons_succ,List.countP_cons];omega
theorem Rf {md:Region.Mode} {listed:Array Bool} {i:Nat} (h:i∈Region.ready md ops listed):i<ops.size/\listed.getD i true=false/\∃o,ops[i]? =some o/\∀e∈o.after.toList,Region.binds md e=true->listed.getD e.on false=true:=by
 unfold Region.ready at h;simp only[List.mem_filter,List.mem_range,Bool.and_eq_true,Bool.not_eq_true']at h;obtain⟨h1,h2,h3⟩:=h;refine⟨h1,h2, ?_⟩;cases ho:ops[i]? with
 |none=>rw[ho]at h3;simp at h3
 |some o=>
  rw[ho]at h3;simp only[Option.map_some,Option.getD_some]at h3;refine⟨o,rfl,λe he hb=> ?_⟩;rw[<-Array.all_toList,List.all_eq_true]at h3;have:=h3 e he;simpa [hb]using this
theorem agR {l:Array Bool} (h:Fq l=0) (i:Nat):l.getD i true=true:=by
 obtain⟨l⟩:=l;simp only[Fq,List.countP_eq_zero,Bool.not_eq_true',Bool.not_eq_false]at h;simp only[Array.getD_eq_getD_getElem?,List.getElem?_toArray];cases hi:l[i]? with
 |none=>rfl
 |some b=>exact h b (List.mem_of_getElem? hi)
theorem Xz (J:Array Bool->Act->World->Prop)
  (hstep:∀listed a w i,listed.size=ops.size->J listed a w->i∈Region.ready .any ops listed->wpOpIn F n P ops Q i (J (listed.setIfInBounds i true)) a w)
  (hend:∀listed a w,listed.size=ops.size->J listed a w->Region.ready .any ops listed= []->Q .normal a w):
  ∀(fuel:Nat) (listed:Array Bool) (a:Act) (w:World),listed.size=ops.size->Fq listed<=fuel->J listed a w->wpAnyIn F n P .any ops Q fuel listed a w
 |0,listed,a,w,hs,hc,hj=>by
  have hr:Region.ready .any ops listed= []:=by
   rw[List.eq_nil_iff_forall_not_mem];intro i hi;have:=(Rf hi).2.1;rw[agR aG i]at this;cases this
  exact⟨hr,hend listed a w hs hj hr⟩
 |fuel+1,listed,a,w,hs,hc,hj=>by
  refine⟨λhr=>hend listed a w hs hj hr,λi hi=> ?_⟩;have hm:=Rf hi;refine wpOpIn_mono (λa' w' h'=> ?_) (hstep listed a w i hs hj hi);have:=ahv (by rw[hs];exact hm.1) hm.2.1;exact Xz J hstep hend fuel _ a' w' (by simpa using hs) aG h'
theorem aeS {id:Nat} {a:Act} {w:World} (hm:P.follows .mixedOrders=true) (J:Array Bool->Act->World->Prop)
  (h0:J (Array.replicate ops.size false) a {w with drawn:=w.drawn+1})
  (hstep:∀listed a w i,listed.size=ops.size->J listed a w->i∈Region.ready .any ops listed->wpOpIn F n P ops Q i (J (listed.setIfInBounds i true)) a w)
  (hend:∀listed a w,listed.size=ops.size->J listed a w->Region.ready .any ops listed= []->Q .normal a w):(Code.region id ops true).wpIn F n P Q a w:=by
 refine wpIn_region_any hm (Xz J hstep hend _ _ _ _ aH ?_ h0);unfold Fq;have:=List.countP_le_length (p:=λb=> !b) (l:=(Array.replicate ops.size false).toList);simpa using this
def N_ (ops:Array Oper) (L:Nat->Prop) (i:Nat):Prop:=∀o,ops[i]? =some o->∀e∈o.after.toList,Region.binds .any e=true->L e.on
def Rm (ops:Array Oper) (L:Nat->Prop):Prop:=∀i,L i->N_ ops L i
def J_ (ops:Array Oper) (acc:Array Nat):Prop:=∀i j,(acc.getD i 0).testBit j=true->∀L,Rm ops L->N_ ops L i->L j
def sA (ops:Array Oper) (i j:Nat):Bool:=((Region.before ops).getD i 0).testBit j
theorem Xf (A:Nat->Nat) (j:Nat):∀(l:List Edge) (s:Nat),(l.foldl (λs e=>if Region.binds .any e then s|||2^e.on|||A e.on else s) s).testBit j=true->
  s.testBit j=true\/∃e∈l,Region.binds .any e=true/\(e.on=j\/(A e.on).testBit j=true)
 | [],s,h=> .inl h
 |e::l,s,h=>by
  rw[List.foldl_cons]at h
  rcases Xf A j l _ h with h1|⟨e',h1,h2⟩
  ·split at h1
   ·next hb=>
    simp only[Nat.testBit_or,Bool.or_eq_true]at h1
    rcases h1 with(h1|h1)|h1
    ·exact .inl h1
    ·refine .inr ⟨e,List.mem_cons_self,hb, .inl ?_⟩
     rw[Nat.testBit_two_pow]at h1;simpa using h1
    ·exact .inr ⟨e,List.mem_cons_self,hb, .inr h1⟩
   ·exact .inl h1
  ·exact .inr ⟨e',List.mem_cons_of_mem _ h1,h2⟩
theorem af7 {acc:Array Nat} {o:Oper} (h:J_ ops acc) (ho:ops[acc.size]? =some o):
  J_ ops (acc.push (o.after.foldl (λs e=>if Region.binds .any e then s|||2^e.on|||acc.getD e.on 0 else s) 0)):=by
 intro i j hb L hL he;rw[Array.getD_eq_getD_getElem?,Array.getElem?_push]at hb;split at hb
 ·next hi=>
  subst hi;rw[<-Array.foldl_toList]at hb;simp only[Option.getD_some]at hb;rcases Xf (λk=>acc.getD k 0) j o.after.toList 0 hb with h1|⟨e,h1,h2,h3⟩
  ·simp at h1
  ·have hLe:=he o ho e h1 h2;rcases h3 with rfl|h3
   ·exact hLe
   ·exact h e.on j h3 L hL (hL _ hLe)
 ·rw[<-Array.getD_eq_getD_getElem?]at hb;exact h i j hb L hL he
theorem Yc:∀(rest:List Oper) (acc:Array Nat),(∀k o,rest[k]? =some o->ops[acc.size+k]? =some o)->J_ ops acc->
  J_ ops (rest.foldl (λacc o=>acc.push (o.after.foldl (λs e=>if Region.binds .any e then s|||2^e.on|||acc.getD e.on 0 else s) 0)) acc)
 | [],_,_,h=>h
 |o::rest,acc,hr,h=>by
  rw[List.foldl_cons]
  refine Yc rest _ (λk o' hk=> ?_) (af7 h (by simpa using hr 0 o rfl))
  rw[Array.size_push]
  have:=hr (k+1) o' (by simpa using hk)
  rw[<-this];congr 1;omega
theorem ZC {i j:Nat} (h:sA ops i j=true) {L:Nat->Prop} (hL:Rm ops L) (he:N_ ops L i):L j:=by
 have hg:J_ ops (Region.before ops):=by
  unfold Region.before;rw[<-Array.foldl_toList];refine Yc ops.toList #[] (λk o hk=>by simpa using hk) ?_;intro i j hb;simp at hb
 exact hg i j h L hL he
def Ia (ops:Array Oper) (i:Nat):Option Tmp:=(ops[i]?).bind (·.dst)
def CC (ops:Array Oper) (t:Tmp):Option Nat:=(List.range ops.size).find? λi=>Ia ops i==some t
def Oz (ops:Array Oper) (size:Nat):Bool:=
 ((List.range ops.size).all λi=>(Ia ops i).all λt=>decide (t<size)&&(CC ops t==some i))&&
 ((List.range ops.size).all λi=>((ops[i]?).map (Oper.looksAt ops)).all λl=>l.all λt=>(CC ops t).all λj=>sA ops i j||sA ops j i)&&
 ((List.range ops.size).all λi=>((ops[i]?).map (·.after.toList)).all λl=>l.all λe=> !Region.binds .any e||decide (e.on<i))
def fu (ops:Array Oper) (a0:Act) (vs:Nat->Value) (L:Nat->Bool) (t:Tmp):Value:=
 match CC ops t with
 |some j=>if L j then vs j else a0.tmps.getD t undef
 |none=>a0.tmps.getD t undef
def yK (E:List Nat) (L:Nat->Bool):Nat:=E.countP L
def E7 (ops:Array Oper) (E:List Nat) (i k:Nat):Bool:=
 decide (E.countP (λe=>sA ops i e)<=k)&&decide (k+E.countP (λe=>sA ops e i||e==i)<=E.length)
def ku (listed:Array Bool) (j:Nat):Bool:=listed.getD j false
theorem Hw {listed:Array Bool} {i j:Nat} (hi:i<listed.size):ku (listed.setIfInBounds i true) j=(decide (j=i)||ku listed j):=by
 unfold ku;rw[Array.getD_eq_getD_getElem?,Array.getElem?_setIfInBounds,Array.getD_eq_getD_getElem?];by_cases h:i=j
 ·subst h;simp [hi]
 ·have:j≠i:=λe=>h e.symm;simp [h,this]
theorem Xg {p q:Nat->Bool}:∀(l:List Nat),(∀x∈l,p x=true->q x=true)->l.countP p<=l.countP q:=λ_l h=>List.countP_mono_left h
theorem Xh (p:Nat->Bool):∀(l:List Nat),l.countP p+l.countP (λx=> !p x)=l.length
 | []=>rfl
 |x::l=>by
  have:=Xh p l
  simp only[List.countP_cons,aq]
  cases p x<;>simp<;>omega
theorem Yd {p:Nat->Bool} {i:Nat}:∀(l:List Nat),l.Nodup->p i=false->l.countP (λx=>decide (x=i)||p x)=l.countP p+(if i∈l then 1 else 0)
 | [],_,_=>rfl
 |x::l,hn,hi=>by
  rw[List.nodup_cons]at hn
  have ih:=Yd l hn.2 hi
  simp only[List.countP_cons,ih,List.mem_cons]
  by_cases hx:x=i
  ·subst hx
   have: ¬x∈l:=hn.1
   simp [hi,this]
  ·have hx':i≠x:=λe=>hx e.symm
   simp only[hx,decide_false,Bool.false_or,hx',false_or]
   omega
def OA (G:Nat->Oper->Prop):List Oper->Nat->Prop
 | [],_=>True
 |o::l,i=>G i o/\OA G l (i+1)
theorem Zi {G:Nat->Oper->Prop}:∀(l:List Oper) (n i:Nat) (o:Oper),OA G l n->l[i]? =some o->G (n+i) o
 | [],_,_,_,_,h=>by simp at h
 |x::l,n,0,o,hg,h=>by simp at h;subst h;exact hg.1
 |x::l,n,i+1,o,hg,h=>by
  have:=Zi l (n+1) i o hg.2 (by simpa using h)
  rwa[show n+(i+1)=n+1+i from by omega]
theorem jE {E:List Nat} {i k:Nat} (h:E7 ops E i k=true) (m:Nat) (h1:E.countP (λe=>sA ops i e)=m) (h2:E.countP (λe=>sA ops e i||e==i)+m=E.length):k=m:=by
 unfold E7 at h;rw[Bool.and_eq_true,decide_eq_true_eq,decide_eq_true_eq]at h;omega
theorem kZ {i:Nat} {o:Oper} {a:Act} {W W':World} {K:Act->World->Prop} {v:Value} (ho:ops[i]? =some o) (hg:o.guard=none) (hab:∀f,o.about P W a.eval=some f->F.fn f) (hd:∀c,o.op≠ .defer c)
  (hrun:(execOp a.eval o).run P W= .ok (.value v) W') (h:K (a.put o.dst v) W'):wpOpIn F n P ops Q i K a W:=by
 unfold wpOpIn;rw[ho];simp only[Region.wanted,hg,if_true];refine⟨hab, ?_⟩;rw[Oper.semAt_plain F _ _ hd,hrun];exact h
theorem N2 {i:Nat} {o:Oper} {a:Act} {W W':World} {K:Act->World->Prop} (ho:ops[i]? =some o) (hg:o.guard=none) (hab:∀f,o.about P W a.eval=some f->F.fn f) (hd:∀c,o.op≠ .defer c)
  (hrun:(execOp a.eval o).run P W= .ok .skip W') (h:K (a.put o.dst undef) W'):wpOpIn F n P ops Q i K a W:=by
 unfold wpOpIn;rw[ho];simp only[Region.wanted,hg,if_true];refine⟨hab, ?_⟩;rw[Oper.semAt_plain F _ _ hd,hrun];exact h
theorem Rn {i:Nat} {o:Oper} {a:Act} {W W':World} {K:Act->World->Prop} {f:FuncId} {args:Array Value} {R:Ending->World->Prop} (ho:ops[i]? =some o) (hg:o.guard=none) (hab:∀f,o.about P W a.eval=some f->F.fn f) (hd:∀c,o.op≠ .defer c)
  (hrun:(execOp a.eval o).run P W= .ok (.enter f args) W') (hdp:F.depth.isSome=true->1<=n) (hc:CallsIn F (n - 1) P f args W' R) (h:∀e w',R e w'->∃v,e= .returned v/\K (a.put o.dst v) w'):wpOpIn F n P ops Q i K a W:=by
 unfold wpOpIn;rw[ho];simp only[Region.wanted,hg,if_true];refine⟨hab, ?_⟩;rw[Oper.semAt_plain F _ _ hd,hrun];refine⟨hdp,hc.mono (λe w' hr=> ?_)⟩;obtain⟨v,rfl,hk⟩:=h e w' hr;exact hk
end
section
variable {F:Fence} {n:Nat} {P:Program} {ops:Array Oper} {Q:Exit->Act->World->Prop}
theorem aeW {id:Nat} {a0:Act} {w:World} (hm:P.follows .mixedOrders=true) (E:List Nat) (hE:E.Nodup) (hok:Oz ops a0.tmps.size=true)
  (C:Nat->(Nat->Value)->World->Prop) (Step:World->World->Prop) (Φ:Nat->Value->World->Prop) (h0:C 0 (λ_=>undef) {w with drawn:=w.drawn+1})
  (hst:∀j v W W',Step W W'->Φ j v W->Φ j v W')
  (hop:∀i o,ops[i]? =some o->∀(k:Nat) (a:Act) (W:World) (vs:Nat->Value),E7 ops E i k=true->C k vs W->(∀j,sA ops i j=true->Φ j (vs j) W)->a.tmps.size=a0.tmps.size->
   (∀t∈o.looksAt ops,a.tmps.getD t undef=fu ops a0 vs (sA ops i) t)->
   wpOpIn F n P ops Q i (λa' W'=>∃v,a'=a.put o.dst v/\C (if i∈E then k+1 else k) (λk=>if k=i then v else vs k) W'/\Step W W'/\Φ i v W') a W)
  (hend:∀vs W,C E.length vs W->(∀j,j<ops.size->Φ j (vs j) W)->Q .normal {tmps:=((List.range a0.tmps.size).map (fu ops a0 vs (λ_=>true))).toArray,defers:=a0.defers} W)
  (Mt:∀e∈E,e<ops.size):(Code.region id ops true).wpIn F n P Q a0 w:=by
 unfold Oz at hok;simp only[Bool.and_eq_true,List.all_eq_true,List.mem_range]at hok;obtain⟨⟨k1,k2⟩,k3⟩:=hok;have hwr:∀{t:Tmp} {j:Nat},CC ops t=some j->j<ops.size/\Ia ops j=some t:=λ{t j} h=>by
  unfold CC at h;have h1:=List.find?_some h;have h2:=List.mem_of_find?_eq_some h;simp at h1 h2;exact⟨h2,h1⟩
 have akA:∀{i:Nat} {t:Tmp},i<ops.size->Ia ops i=some t->t<a0.tmps.size/\CC ops t=some i:=λ{i t} hi ht=>by
  have:=k1 i hi;rw[ht]at this;simpa using this
 refine aeS hm (λlisted a W=>∃vs:Nat->Value,C (yK E (ku listed)) vs W/\(∀j,ku listed j=true->Φ j (vs j) W)/\Rm ops (λj=>ku listed j=true)/\a.tmps.size=a0.tmps.size/\a.defers=a0.defers/\∀t,a.tmps.getD t undef=fu ops a0 vs (ku listed) t) ?_ ?_ ?_
 ·have hl:∀j,ku (Array.replicate ops.size false) j=false:=λj=>by
   unfold ku;rw[Array.getD_eq_getD_getElem?,Array.getElem?_replicate];split<;>rfl
  refine⟨λ_=>undef, ?_,(λj hj=>by rw[hl]at hj;cases hj),(λj hj=>by simp only[hl]at hj;cases hj),rfl,rfl,λt=> ?_⟩
  ·have:yK E (ku (Array.replicate ops.size false))=0:=by
    unfold yK;rw[List.countP_eq_zero];intro e _;rw[hl];simp
   rw[this];exact h0
  ·unfold fu;split
   ·rw[hl];rfl
   ·rfl
 ·rintro listed a W i hs⟨vs,hC,cK,hcl,hsz,Es,hsl⟩ hi;obtain⟨hin,hun,o,ho,hed⟩:=Rf hi;have hun':ku listed i=false:=by
   unfold ku;rw[Array.getD_eq_getD_getElem?]at hun|-;rw[Array.getElem?_eq_getElem (by rw[hs];exact hin)]at hun|-;simpa using hun
  have aav:N_ ops (λj=>ku listed j=true) i:=λo' ho' e he hb=>by
   rw[ho]at ho';cases ho';exact hed e he hb
  have xd:∀j,sA ops i j=true->ku listed j=true:=λj hj=>ZC hj hcl aav;have hnb:∀j,sA ops j i=true->ku listed j=false:=λj hj=>by
   cases hlj:ku listed j with
   |false=>rfl
   |true=>
    have:=ZC (L:=λj=>ku listed j=true) hj hcl (hcl j hlj);rw[hun']at this;cases this
  have dm:E7 ops E i (yK E (ku listed))=true:=by
   unfold E7 yK;rw[Bool.and_eq_true,decide_eq_true_eq,decide_eq_true_eq];refine⟨Xg E (λe _ he=>xd e he), ?_⟩;have h1:=Xh (ku listed) E;have h2:E.countP (λe=>sA ops e i||e==i)<=E.countP (λx=> !ku listed x):=Xg E (λe _ he=>by
    rw[Bool.or_eq_true]at he;rcases he with he|he
    ·rw[hnb e he];rfl
    ·have:e=i:=by simpa using he
     rw[this,hun'];rfl)
   omega
  refine wpOpIn_mono ?_ (hop i o ho _ a W vs dm hC (λj hj=>cK j (xd j hj)) hsz (λt ht=> ?_))
  ·rintro a' W'⟨v,rfl,zw,hS',hv⟩;refine⟨λk=>if k=i then v else vs k, ?_, ?_, ?_, ?_, ?_, ?_⟩
   ·have:yK E (ku (listed.setIfInBounds i true))=(if i∈E then yK E (ku listed)+1 else yK E (ku listed)):=by
     unfold yK;have he:(λx=>ku (listed.setIfInBounds i true) x)=(λx=>decide (x=i)||ku listed x):=funext λx=>Hw (by rw[hs];exact hin);rw[show E.countP (ku (listed.setIfInBounds i true))=E.countP (λx=>decide (x=i)||ku listed x)from by rw[<-he],Yd E hE hun'];split<;>rfl
    rw[this];exact zw
   ·intro j hj;rw[Hw (by rw[hs];exact hin)]at hj;by_cases h:j=i
    ·subst h;simpa using hv
    ·simp only[h,decide_false,Bool.false_or]at hj;simp only[h,if_false];exact hst j _ W W' hS' (cK j hj)
   ·intro j hj o' ho' e he hb;rw[Hw (by rw[hs];exact hin)]at hj;show ku _ _=true;rw[Hw (by rw[hs];exact hin),Bool.or_eq_true];right;by_cases h:j=i
    ·subst h;exact aav o' ho' e he hb
    ·simp only[h,decide_false,Bool.false_or]at hj;exact hcl j hj o' ho' e he hb
   ·cases hd:o.dst<;>simp [Act.put,hsz]
   ·cases hd:o.dst<;>simp [Act.put,Es]
   ·intro t;have hdo:Ia ops i=o.dst:=by simp [Ia,ho]
    by_cases PB:o.dst=some t
    ·obtain⟨h1,h2⟩:=akA hin (hdo.trans PB);have:(a.put o.dst v).tmps.getD t undef=v:=by
      rw[PB];simp [Act.put,hsz,h1]
     rw[this];unfold fu;rw[h2];simp only[Hw (show i<listed.size by rw[hs];exact hin)];simp
    ·have:(a.put o.dst v).tmps.getD t undef=a.tmps.getD t undef:=by
      cases hd:o.dst with
      |none=>rfl
      |some d=>
       have hne:d≠t:=λe=>PB (by rw[hd,e]);simp only[Act.put,Array.getD_eq_getD_getElem?,Array.getElem?_setIfInBounds,hne,if_false]
     rw[this,hsl t];unfold fu;cases hw:CC ops t with
     |none=>rfl
     |some j=>
      have p8:j≠i:=by
       rintro rfl;exact PB (hdo▸(hwr hw).2)
      simp only[Hw (show i<listed.size by rw[hs];exact hin),p8,decide_false,Bool.false_or,if_false]
  ·rw[hsl t];unfold fu;cases hw:CC ops t with
   |none=>rfl
   |some j=>
    have h2:=k2 i hin;rw[ho]at h2;simp only[Option.map_some,Option.all_some,List.all_eq_true]at h2;have h3:=h2 t ht;rw[hw]at h3;simp only[Option.all_some,Bool.or_eq_true]at h3;by_cases hb:sA ops i j=true
    ·simp only[hb,if_true,xd j hb]
    ·have hb':sA ops i j=false:=by simpa using hb
     have hj:=hnb j (h3.resolve_left hb);simp only[hb',hj]
 ·rintro listed a W hs⟨vs,hC,cK,hcl,hsz,Es,hsl⟩ hr;have hall:∀i,i<ops.size->ku listed i=true:=by
   intro i
   induction i using Nat.strongRecOn with
   |_ i ih=>
    intro hi;cases hl:ku listed i with
    |true=>rfl
    |false=>
     exfalso;have:i∈Region.ready .any ops listed:=by
      unfold Region.ready;simp only[List.mem_filter,List.mem_range,Bool.and_eq_true,Bool.not_eq_true'];refine⟨hi, ?_, ?_⟩
      ·unfold ku at hl;rw[Array.getD_eq_getD_getElem?]at hl|-;rw[Array.getElem?_eq_getElem (by rw[hs];exact hi)]at hl|-;simpa using hl
      ·rw[Array.getElem?_eq_getElem hi];simp only[Option.map_some,Option.getD_some];rw[<-Array.all_toList,List.all_eq_true];intro e he;have h4:=k3 i hi;rw[Array.getElem?_eq_getElem hi]at h4;simp only[Option.map_some,Option.all_some,List.all_eq_true]at h4;have h5:=h4 e he;cases hb:Region.binds .any e with
       |false=>rfl
       |true=>
        rw[hb]at h5;simp only[Bool.not_true,Bool.false_or,decide_eq_true_eq]at h5;have:=ih e.on h5 aG;unfold ku at this;simp [this]
     rw[hr]at this;cases this
  have akB:yK E (ku listed)=E.length:=by
   unfold yK;rw[List.countP_eq_length];intro e he;exact hall e (Mt e he)
  have ha:a={tmps:=((List.range a0.tmps.size).map (fu ops a0 vs (λ_=>true))).toArray,defers:=a0.defers}:=by
   obtain⟨tm,df⟩:=a;simp only at hsz Es hsl;subst Es
   congr 1
   apply Array.ext
   ·simp [hsz]
   ·intro t ht1 ht2;have:=hsl t;rw[Array.getD_eq_getD_getElem?,Array.getElem?_eq_getElem ht1]at this;simp only[Option.getD_some]at this;rw[this];simp only[List.getElem_toArray,List.getElem_map,List.getElem_range];unfold fu;cases hw:CC ops t with
    |none=>rfl
    |some j=>simp only[hall j (hwr hw).1]
  rw[ha];exact hend vs W (akB▸hC) (λj hj=>cK j (hall j hj))
theorem aeT {id:Nat} {a0:Act} {w:World} (hm:P.follows .mixedOrders=true) (E:List Nat) (hE:E.Nodup) (hok:Oz ops a0.tmps.size=true) (Mt:(E.all λe=>decide (e<ops.size))=true)
  (C:Nat->(Nat->Value)->World->Prop) (Step:World->World->Prop) (Φ:Nat->Value->World->Prop) (h0:C 0 (λ_=>undef) {w with drawn:=w.drawn+1})
  (hst:∀j v W W',Step W W'->Φ j v W->Φ j v W')
  (hop:OA (λi o=>∀(k:Nat) (a:Act) (W:World) (vs:Nat->Value),ops[i]? =some o->E7 ops E i k=true->C k vs W->(∀j,sA ops i j=true->Φ j (vs j) W)->a.tmps.size=a0.tmps.size->
   (∀t∈o.looksAt ops,a.tmps.getD t undef=fu ops a0 vs (sA ops i) t)->
   wpOpIn F n P ops Q i (λa' W'=>∃v,a'=a.put o.dst v/\C (if i∈E then k+1 else k) (λk=>if k=i then v else vs k) W'/\Step W W'/\Φ i v W') a W) ops.toList 0)
  (hend:∀vs W,C E.length vs W->(∀j,j<ops.size->Φ j (vs j) W)->Q .normal {tmps:=((List.range a0.tmps.size).map (fu ops a0 vs (λ_=>true))).toArray,defers:=a0.defers} W):(Code.region id ops true).wpIn F n P Q a0 w:=
 aeW hm E hE hok C Step Φ h0 hst (λi o ho k a W vs h1 h2 h3 h4 h5=>by
  have:=Zi ops.toList 0 i o hop (by simpa using ho)
  rw[Nat.zero_add]at this
  exact this k a W vs ho h1 h2 h3 h4 h5) hend (λe he=>by have:=List.all_eq_true.1 Mt e he;simpa using this)
end
def E9:List Oper->Nat->(Nat->Value)->Act->Act
 | [],_,_,a=>a
 |o::l,n,vs,a=>E9 l (n+1) vs (a.put o.dst (vs n))
theorem Np {F:Fence} {n:Nat} {P:Program} {ops:Array Oper} {Q:Exit->Act->World->Prop} {id:Nat} {a0:Act} {w:World} (hm:P.follows .mixedOrders=true) (E:List Nat) (hE:E.Nodup) (hok:Oz ops a0.tmps.size=true) (Mt:(E.all λe=>decide (e<ops.size))=true)
  (gW:∀vs,({tmps:=((List.range a0.tmps.size).map (fu ops a0 vs (λ_=>true))).toArray,defers:=a0.defers}:Act)=E9 ops.toList 0 vs a0)
  (C:Nat->(Nat->Value)->World->Prop) (Step:World->World->Prop) (Φ:Nat->Value->World->Prop) (h0:C 0 (λ_=>undef) {w with drawn:=w.drawn+1})
  (hst:∀j v W W',Step W W'->Φ j v W->Φ j v W')
  (hop:OA (λi o=>∀(k:Nat) (a:Act) (W:World) (vs:Nat->Value),ops[i]? =some o->E7 ops E i k=true->C k vs W->(∀j,sA ops i j=true->Φ j (vs j) W)->a.tmps.size=a0.tmps.size->
   (∀t∈o.looksAt ops,a.tmps.getD t undef=fu ops a0 vs (sA ops i) t)->
   wpOpIn F n P ops Q i (λa' W'=>∃v,a'=a.put o.dst v/\C (if i∈E then k+1 else k) (λk=>if k=i then v else vs k) W'/\Step W W'/\Φ i v W') a W) ops.toList 0)
  (hend:∀vs W,C E.length vs W->(∀j,j<ops.size->Φ j (vs j) W)->Q .normal (E9 ops.toList 0 vs a0) W):(Code.region id ops true).wpIn F n P Q a0 w:=
 aeT hm E hE hok Mt C Step Φ h0 hst hop (λvs W h1 h2=>by rw[gW];exact hend vs W h1 h2)
end
section
open Go.RowKit Go.Shelf
attribute [local go_sem] Oper.semAt_some
def NR (B:Nat->Prop) (pv lv:Value) (ps ls:List aK):Prop:=∀W g,Row W g 49 [pv,lv]->aP B 1 dc W pv ps->aP B 1 dc W lv ls->
 Calls Tryz.prog 86 #[.slice (some ⟨g,0,none⟩) 2 2] W λe w'=>∃v,e= .returned v/\a_ 1 9 fR w' W.heap.size v (ps++ls)/\Below W.heap.size W w'
theorem Zz (w:World):Calls Tryz.prog 124 #[.slice none 0 0,I 0] w λe w'=>e= .returned (.slice none 0 0)/\w'=w:=by
 go_enter Tryz.func124,Tryz.ntmps124;go_wp2;go_ret;exact⟨rfl,rfl⟩
theorem concat_nil (B:Nat->Prop) (pa la:Option Addr) (pc lc:Nat):NR B (.slice pa 0 pc) (.slice la 0 lc) [] []:=by
 intro W g hr hp hl;have c0:=hr.k0;have c1:=hr.k1;clear hr hp hl;rcases pa with _|pa<;>rcases la with _|la
 all_goals
  go_enter Tryz.func86,Tryz.ntmps86;go_upto_region 3 with(fail)
  go_loopg [3,11] 2 (λgh s i wr=>s=I 0/\∃k:Nat,gh+k=2/\i=I k/\wr=W)
  case atStart=>exact⟨rfl,0,rfl,rfl,rfl⟩
  case round=>
   obtain⟨rfl,k,hg,rfl,rfl⟩:=hrel;rcases(by omega:k=0\/k=1\/k=2)with rfl|rfl|rfl
   ·go_wp2;go_roundg 1
    case measure=>omega
    case rel=>exact⟨rfl,1,rfl,rfl,rfl⟩
   ·go_wp2;go_roundg 0
    case measure=>omega
    case rel=>exact⟨rfl,2,rfl,rfl,rfl⟩
   ·go_upto_region 11 with(go_at_call 124;refine(Zz _).mono ?_;rintro e w1⟨rfl,rfl⟩)
    go_loopg [6,27] 2 (λgh s i wr=>s= .slice none 0 0/\∃k:Nat,gh+k=2/\i=I k/\wr=w1)
    case atStart=>exact⟨rfl,0,rfl,rfl,rfl⟩
    case round=>
     obtain⟨rfl,k,hg2,rfl,rfl⟩:=hrel;rcases(by omega:k=0\/k=1\/k=2)with rfl|rfl|rfl
     ·go_wp2_with (at_builtin;refine JA wu rfl _ _ rfl 0 (.slice none 0 0) 0 [] rfl ⟨rfl, .inl ⟨rfl,rfl⟩⟩ _ _ rfl ?_)
      go_roundg 1
      case measure=>omega
      case rel=>exact⟨rfl,1,rfl,rfl,rfl⟩
     ·go_wp2_with (at_builtin;refine JA wu rfl _ _ rfl 0 (.slice none 0 0) 0 [] rfl ⟨rfl, .inl ⟨rfl,rfl⟩⟩ _ _ rfl ?_)
      go_roundg 0
      case measure=>omega
      case rel=>exact⟨rfl,2,rfl,rfl,rfl⟩
     ·go_wp2;go_ret;exact⟨_,rfl,a_.nil,Below.refl _ _⟩
theorem afU {α:Type} {B:Nat->Prop} {R:World->(Nat->Value)->α->Prop} (w:World) (v:Value) (l:List α) (hv:aP B 1 R w v l) (hR:∀W W' C x,Below W.heap.size W W'->R W C x->R W' C x) (iJ:Nat) (lg:Array Value) (t:α->Bool) (hp:qE Kl R w iJ lg t l):
  CR 125 #[v, .func (.func iJ) #[] lg] w (I (ny t l)):=by
 obtain⟨a0,c0,rfl,hlen, -⟩:=id hv;have Pg:=hp.eg;have HV:=aF hv;have HP:=aF hp;have pX:=aF hR;clear hv hp hR;go_enter Tryz.func125,Tryz.ntmps125;go_wp2;go_loopg [8] l.length (λgh i wr=>∃k:Nat,gh+k=l.length/\i=I k/\Hid (Below w w wr/\∀j,(hj:j<l.length)->j<k->t l[j]=false))
 case atStart=>exact⟨0,rfl,rfl,aF ⟨Below.refl _ _,λj hj h=>absurd h aG⟩⟩
 case round=>
  obtain⟨k,hg,rfl,HH⟩:=hrel;obtain⟨wo,rfl⟩:=xq wr;have HB:=aF HH.out.1;by_cases hlt:k<l.length
  ·have bT:(k:Int)<(l.length:Int):=aG;obtain⟨b,o,C,rfl,_,hC,hrx⟩:=(HV.below HB (λC x h=>pX.out _ _ C x HB h)).at hlt;have e0:=hC 0 aG;simp only[aA,Nat.mul_one]at e0;have hx:=HP.call l[k] (ak hlt) wo C HB hrx;have⟨tx,htx⟩:=xq (t l[k]);rw[<-htx]at hx;have HX:=aF hx;have HT:=aF htx;clear hx hC hrx htx;cases tx
   ·go_wp2;refine aN HX λw1 hb1=> ?_;have aI:=aU HB hb1;clear e0;go_wp2;go_roundg (l.length - (k+1))
    case measure=>omega
    case rel=>
     refine⟨k+1,aG,by go_num,aF ⟨aI,λj hj hjk=> ?_⟩⟩;by_cases wI:j=k
     ·subst wI;exact HT.out.symm
     ·exact HH.out.2 j hj aG
   ·go_wp2;refine aN HX λw1 hb1=> ?_;have aI:=aU HB hb1;clear e0;go_wp2;go_ret;exact⟨by rw[BX hlt (λj hj=>HH.out.2 j aG hj) HT.out.symm];rfl,aI⟩
  ·have bT: ¬(k:Int)<(l.length:Int):=aG;go_wp2;go_ret;exact⟨by rw[BU (λj hj=>HH.out.2 j hj aG)];rfl,HB⟩
theorem WT {α:Type} {B:Nat->Prop} {R:World->(Nat->Value)->α->Prop} (w:World) (v:Value) (l:List α) (hv:aP B 1 R w v l) (hR:∀W W' C x,Below W.heap.size W W'->R W C x->R W' C x) (iJ:Nat) (lg:Array Value) (t:α->Bool) (hp:qE Kl R w iJ lg t l):
  CR 87 #[v, .func (.func iJ) #[] lg] w (.bool (l.any t)):=by
 have HI:=aF (afU w v l hv hR iJ lg t hp);have⟨q,hq⟩:=xq (ny t l);rw[<-hq]at HI;have hz:decide (0<=q)=l.any t:=by
  rw[Bool.eq_iff_iff,decide_eq_true_eq,hq,Jw,List.any_eq_true]
 have HZ:=aF hz;obtain⟨a0,c0,rfl, -⟩:=hv;clear hR hp hq hz;go_enter Tryz.func87,Tryz.ntmps87;go_wp2_with (go_at_call 125;refine aN HI λw1 aI=> ?_)
 go_ret;rw[<-HZ.out];exact⟨rfl,aI⟩
theorem aeY (B:Nat->Prop) (x:aK) (v:Value) (gl:List aK) (p:Nat) (w:World) (hr:Row w p 49 [v]) (hv:aP B 1 dc w v gl):
  CR 88 #[S x, .pointer (some (p,0))] w (.bool (decide (x∈gl))):=by
 have HC:=aF (W9 w v gl x hv);obtain⟨a0,c0,rfl, -⟩:=hv;have c1:=hr.cell 0;simp only[af]at c1;clear hr;go_enter Tryz.func88,Tryz.ntmps88;go_wp2_with (go_at_call 89;refine HC.mono ?_;rintro e' w1⟨rfl,rfl⟩)
 go_ret;exact⟨rfl,Below.refl _ _⟩
end
end Go.Proofs.YtjgbkdbkachciaaGreatDoor
