import Derived.Test.YtjgbkdbkachciaaGreatDoorV5
import Derived.RangeFuncCalls
import Derived.RangeFuncLeaves
import Derived.Shelf.RegionOpen
import Derived.OwnWalkIn
import Derived.TacticsInMore
import Derived.LoopNIn
import Derived.LoopIn
import Derived.Maps.AppendAt
import Derived.Sort.LoopGhostIn
import Derived.Deep.WholeRow
set_option linter.all false
namespace Go.Proofs.YtjgbkdbkachciaaGreatDoor
set_option maxRecDepth 100000
set_option maxHeartbeats 16000000
section
open Go.RowKit Go.Shelf
attribute [local go_sem] Oper.semAt_some
theorem WM {F:Fence} {n:Nat} {P:Program} {ops:Array Oper} {rest:List Oper} {o:Oper} {a:Act} {w:World} {Q:Exit->Act->World->Prop} (hgd:o.guard=none) (ty:TypeId) (x y:Operand) (ho:o.op= .store ty x y)
  (g:Nat) (cells:Array Value) (hx:a.eval x= .pointer (some (g,0))) (hy:a.eval y= .agg cells)
  (t:TypeId) (old:Array Value) (hg:w.heap[g]? =some (.cells old t (0,0))) (hi:(P.info? ty).map (·.size)=some cells.size)
  (hold:old.size=cells.size) (h1:cells.all (·.oneCell')=true)
  (h:wpListIn F n P ops Q rest (a.put o.dst undef) (w.setRow g cells)):wpListIn F n P ops Q (o::rest) a w:=by
 refine wpListIn_plain hgd λK' hK'=> ?_;unfold Oper.wpIn;refine⟨by simp [Oper.about,ho], ?_⟩;rw[Oper.semAt_plain F _ _ (by rw[ho];intro c hc';cases hc')];simp only[execOp,ho,hx,hy,Instr.storeAt,Instr.sureAddr,Sem.run_bind,Sem.run_pure,Result.andThen_ok,run_storeVar_row w g t ty old cells hg hi hold h1];exact hK' _ _ h
theorem WW {F:Fence} {n:Nat} {P:Program} {ops:Array Oper} {rest:List Oper} {o:Oper} {a:Act} {w:World} {Q:Exit->Act->World->Prop} (ty:TypeId) (x y:Operand) (_:o.op= .store ty x y) (h:wpListIn F n P ops Q (o::rest) a w):wpListIn F n P ops Q (o::rest) a w:=h
theorem ajF (k:Nat):Fence.wide.room k:=λd h=>by cases h
theorem ai9 {m:Nat} (m':Nat) {P:Program} {l:Nat} {args:Array Value} {W:World} {R:Ending->World->Prop} (h:YieldAt Fence.wide m P l args W R):YieldAt Fence.wide m' P l args W R:=by
 obtain⟨fn,tmps,assign,body,hy,hR⟩:=h;exact⟨fn,tmps,assign,body,hy,hR.1,λc cs _=>hR.2 c cs (ajF _)⟩
mutual
def A5 (loop:Bool):LS->List (LS×Bool)
 | .mk k n a t e=>(.mk k n a t e,loop)::(ez (loop||k==4) t++ez loop e)
def ez (loop:Bool):List LS->List (LS×Bool)
 | []=> []
 |x::l=>A5 loop x++ez loop l
end
theorem JO (loop:Bool) (s:LS):A5 loop s=(s,loop)::(ez (loop||s.kind==4) s.thn++ez loop s.els):=by
 cases s;rw[A5];rfl
theorem QV (loop:Bool):∀(a b:List LS),ez loop (a++b)=ez loop a++ez loop b
 | [],b=>by rw[ez];rfl
 |x::a,b=>by rw[List.cons_append,ez,ez,QV loop a b,List.append_assoc]
theorem XK {loop:Bool} {l:List LS} {k:Nat} (hk:k<l.length):ez loop (l.take (k+1))=ez loop (l.take k)++A5 loop l[k]:=by
 rw[List.take_succ_eq_append_getElem hk,QV,ez,ez,List.append_nil]
theorem agj {loop:Bool} {l:List LS} {k:Nat} (hk:k<l.length) {q:List (LS×Bool)} (hq:q<+:A5 loop l[k]):ez loop (l.take k)++q<+:ez loop l:=by
 have h1:ez loop (l.take (k+1))<+:ez loop l:=by
  refine⟨ez loop (l.drop (k+1)), ?_⟩;rw[<-QV,List.take_append_drop]
 rw[XK hk]at h1;exact(List.prefix_append_right_inj _|>.2 hq).trans h1
structure jZ (B:Nat->Prop) (W0:World) where
 s:LS
 av:Value
 tv:Value
 ev:Value
 loop:Bool
 ok:AX B W0 av s.args
 alp:∃a n c,tv= .slice a n c
 ajD:∃a n c,ev= .slice a n c
abbrev jZ.key {B:Nat->Prop} {W0:World} (x:jZ B W0):LS×Bool:=(x.s,x.loop)
abbrev Od {B:Nat->Prop} {W0:World} (x:jZ B W0):Array Value:= #[sV x.s x.av x.tv x.ev, .bool x.loop]
def mq (n₀ nb:Nat) (W W':World):Prop:=Below n₀ W W'/\∀b o,b≠nb->W.heap[b]? =some o->o.isCells=true->W'.heap[b]? =some o
theorem mq.refl (n₀ nb:Nat) (W:World):mq n₀ nb W W:=⟨Below.refl _ _,λ_ _ _ h _=>h⟩
theorem mq.trans {n₀ nb:Nat} {A B C:World} (h:mq n₀ nb A B) (k:mq n₀ nb B C):mq n₀ nb A C:=⟨h.1.trans k.1,λb o hb ho hc=>k.2 b o hb (h.2 b o hb ho hc) hc⟩
theorem mq.alloc {n₀ nb:Nat} (W:World) (o:Obj) (hn:n₀<=W.heap.size):mq n₀ nb W (W.alloc o):=⟨(Below.refl _ _).alloc hn _,λ_b _o' _ h _=>dV _ _ h⟩
theorem mq.row {n₀ nb:Nat} {A B:World} (h:mq n₀ nb A B) {g:Nat} {t:TypeId} {cs:List Value} (hr:Row A g t cs) (hg:g≠nb):Row B g t cs:=h.2 g _ hg hr rfl
theorem walk_in (l N n₀ nb:Nat) (B:Nat->Prop) (W0:World) (hn0:n₀=W0.heap.size) (J Jx:List (jZ B W0)->World->Prop) (base:Nat) (hJ:AbidesFrom base J)
  (hY:∀m pre x W,J pre W->pre.length<N->YieldAt Fence.wide m Tryz.prog l (Od x) W λe W'=>
   (e= .returned (.bool true)/\J (pre++ [x]) W'/\mq n₀ nb W W')\/(e= .returned (.bool false)/\Jx (pre++ [x]) W')):
  ∀(d n:Nat) (ls:List LS) (loop:Bool) (v:Value) (pre:List (jZ B W0)) (W:World),aP B 5 (RS d B) W0 v ls->J pre W->Below n₀ W0 W->nb<W.heap.size->pre.length+(ez loop ls).length<=N->
   CallsIn Fence.wide n Tryz.prog 128 #[v, .bool loop, .func (.yield l) #[] #[]] W λe W'=>
    (e= .returned (.bool true)/\∃ys,ys.map jZ.key=ez loop ls/\J (pre++ys) W'/\mq n₀ nb W W')\/(e= .returned (.bool false)/\∃ys,ys.map jZ.key<+:ez loop ls/\Jx (pre++ys) W'):=by
 intro d
 induction d with
 |zero=>
  intro n ls loop v pre W hv hj hb hnb hN;have hl:ls= []:=by
   obtain⟨a,c,rfl,_,h|⟨b,o,_,_,h⟩⟩:=hv
   ·exact h
   ·cases ls with
    |nil=>rfl
    |cons x l=>obtain⟨C,_,h⟩:=h 0 x rfl;exact h.elim
  subst hl;obtain⟨a,c,rfl, -⟩:=hv;have HJ:=aF hj;clear hj hY hJ hN;refine callsIn_of_wp Tryz.func128 rfl trivial ?_ rfl;simp only[Tryz.ntmps128,List.size_toArray,aq,au,Nat.reduceAdd,Nat.reduceSub,Array.replicate_succ,Array.replicate_zero,List.push_toArray,List.append_toArray,List.nil_append,List.cons_append]
  gi_wp2
  gi_loopg [11] 0 (λgh i wr=>i=I 0/\wr=W)
  case atStart=>exact⟨rfl,rfl⟩
  case round=>
   obtain⟨rfl,rfl⟩:=hrel
   gi_wp2
   go_ret;exact .inl ⟨rfl,[],by simp [ez],by simpa using HJ.out,mq.refl _ _ _⟩
 |succ d ih=>
  intro n ls loop v pre W hv hj hb hnb hN;obtain⟨a0,c0,rfl,hlen, -⟩:=id hv;have hdd:∀k:Nat,(Fence.wide.depth.isSome=true->1<=k):=λk h=>by cases h
  have HV:=aF hv;have HJ:=aF hj;have HB:=aF hb;have HN:=aF hN;have HY:=aF hY;have Bj:=aF hJ;have wZ:=aF ih;have GU:=aF hn0;clear hv hj hb hN hY hJ ih hn0;refine callsIn_of_wp Tryz.func128 rfl trivial ?_ rfl;simp only[Tryz.ntmps128,List.size_toArray,aq,au,Nat.reduceAdd,Nat.reduceSub,Array.replicate_succ,Array.replicate_zero,List.push_toArray,List.append_toArray,List.nil_append,List.cons_append]
  gi_wp2
  gi_loopg [11] ls.length (λgh i wr=>∃(k:Nat) (ys:List (jZ B W0)),gh+k=ls.length/\i=I k/\Hid (ys.map jZ.key=ez loop (ls.take k)/\J (pre++ys) wr/\mq n₀ nb W wr))
  case atStart=>exact⟨0,[],rfl,rfl,aF ⟨by simp [ez],by simpa using HJ.out,mq.refl _ _ _⟩⟩
  case round=>
   obtain⟨k,ys,hg,rfl,HH⟩:=hrel;obtain⟨wo,rfl⟩:=xq wr;by_cases hlt:k<ls.length
   ·have bT:(k:Int)<(ls.length:Int):=aG;have jz:Below n₀ W0 wo:=HB.out.trans HH.out.2.2.1;obtain⟨b,o,C,rfl,_,hC,hrx⟩:=HV.at hlt;have⟨s,hs⟩:=xq (ls[k]);rw[<-hs]at hrx;obtain⟨h0,h1,h2,h3,h4⟩:=hrx;have hce:∀j,j<5->wo.cell? (b,o+k*5+j)=some (C j):=λj hj=>(jz.cell (by rw[GU.out];exact World.block_lt_of_cell? W0 _ (hC j hj))).trans (hC j hj);obtain⟨xa,xc,hxv⟩:=h2.slice;obtain⟨ta,tc,gu, -⟩:=id h3;obtain⟨ea,ec,hev, -⟩:=id h4;obtain⟨al,hal⟩:∃n,n=(LE.mk 0 0 0 [] s.args).args.length:=⟨_,rfl⟩;rw[<-hal]at hxv;have e0:=hce 0 aG;have e1:=hce 1 aG;have e2:=hce 2 aG;have e3:=hce 3 aG;have e4:=hce 4 aG;rw[h0]at e0;rw[h1]at e1;rw[hxv]at e2 h2;rw[gu]at e3 h3;rw[hev]at e4 h4;simp only[aA]at e0 e1 e2 e3 e4;obtain⟨it,hit⟩:∃it:jZ B W0,it=⟨s, .slice xa al xc, .slice ta s.thn.length tc, .slice ea s.els.length ec,loop,h2,⟨_,_,_,rfl⟩,⟨_,_,_,rfl⟩⟩:=⟨_,rfl⟩;have hkey:it.key=(s,loop):=by rw[hit]
    have henc:Od it= #[.agg #[I s.kind,S s.name, .slice xa al xc, .slice ta s.thn.length tc, .slice ea s.els.length ec], .bool loop]:=by rw[hit]
    have hfl:ez loop (ls.take (k+1))=ez loop (ls.take k)++A5 loop s:=by rw[hs];exact XK hlt
    have F_:∀q,q<+:A5 loop s->ez loop (ls.take k)++q<+:ez loop ls:=λq hq=>agj hlt (by rw[<-hs];exact hq);have Oe:ys.length+(A5 loop s).length<=(ez loop ls).length:=by
     have h1:=(F_ _ (List.prefix_refl _)).length_le;have h2:=congrArg List.length HH.out.1;simp only[ax,aC]at h1 h2;omega
    rw[JO]at hfl F_ Oe;simp only[ax,aq]at Oe;have hz:W.heap.size<=wo.heap.size:=HH.out.2.2.1.size;have⟨w3,hw3⟩:=xq (wo.alloc (.cells #[I s.kind,S s.name, .slice xa al xc, .slice ta s.thn.length tc, .slice ea s.els.length ec] 54));have hr3:=dZ hw3;have Qq:J (pre++ys) w3:=by rw[hw3];exact Bj _ _ _ none HH.out.2.1 iD aJ
    have hk3:mq n₀ nb W w3:=by rw[hw3];exact HH.out.2.2.trans (mq.alloc _ _ (by rw[GU.out];exact jz.size))
    have bL:=aF hr3;have gy:=aF hk3;have hNN:pre.length+(ez loop ls).length<=N:=HN.out;have T8:(pre++ys).length<N:=by rw[ax];omega
    have hy:=HY (n - 1) (pre++ys) it w3 Qq T8;clear hNN T8;rw[henc]at hy;obtain⟨fn,tmps,assign,body,vM,hR⟩:=hy;have hc0:=hr3.k0;have hc1:=hr3.k1;have hc2:=hr3.k2;have hc3:=hr3.k3;have xw:=hr3.k4;have iF:=aF h3;have U0:=aF h4;have HKEY:=aF hkey;have rQ:=aF hfl;have IV:=aF F_;have Dk:=aF Oe;have Ds:=aF hw3;have tT:wo.heap.size≠nb:=aG;obtain⟨kb,hkb⟩:∃kb,(s.kind==4)=kb:=⟨_,rfl⟩;rw[hkb]at rQ IV Dk;clear h0 h1 h2 h3 h4 hC hce hxv gu hev hal hit hkey henc hfl F_ Oe hw3 hr3 Qq hk3 hs jz;have Iw:∀(W5:World) (vR:List (jZ B W0)),J (pre++(ys++it::vR)) W5->mq n₀ nb W W5->vR.map jZ.key=ez (loop||kb) s.thn->
      CallsIn Fence.wide (n - 1) Tryz.prog 128 #[.slice ea s.els.length ec, .bool loop, .func (.yield l) #[] #[]] W5 λe W6=>
       (e= .returned (.bool true)/\Hid (∃BO:List (jZ B W0),BO.map jZ.key=ez loop (ls.take (k+1))/\J (pre++BO) W6/\mq n₀ nb W W6))\/
       (e= .returned (.bool false)/\Hid (∃q:List (jZ B W0),q.map jZ.key<+:ez loop ls/\Jx (pre++q) W6)):=λW5 vR Na cg Nb=>by
     have MQ:=congrArg List.length Nb;simp only[aC]at MQ;refine(wZ (n - 1) s.els loop _ (pre++(ys++it::vR)) W5 U0 Na (HB.out.trans cg.1) (iZ cg.1.size) (by
      have:=HN.out;have:=Dk.out;simp only[ax,aq];omega)).mono ?_
     rintro e W6 (⟨rfl,Wk,hm6,Wl,mX⟩|⟨rfl,q,hq,Wl⟩)
     ·refine .inl ⟨rfl,aF ⟨ys++it::(vR++Wk), ?_, ?_,cg.trans mX⟩⟩
      ·rw[rQ.out,List.map_append,List.map_cons,List.map_append,HH.out.1,Nb,hm6,HKEY.out]
      ·have:pre++(ys++it::(vR++Wk))=pre++(ys++it::vR)++Wk:=aH;rw[this];exact Wl
     ·refine .inr ⟨rfl,aF ⟨ys++it::(vR++q), ?_, ?_⟩⟩
      ·rw[List.map_append,List.map_cons,List.map_append,HH.out.1,Nb,HKEY.out];refine IV _ ?_;rw[List.cons_prefix_cons];exact⟨rfl,(List.prefix_append_right_inj _).2 hq⟩
      ·have:pre++(ys++it::(vR++q))=pre++(ys++it::vR)++q:=aH;rw[this];exact Wl
    have Iu:∀(W4:World),J (pre++(ys++ [it])) W4->mq n₀ nb W W4->Row W4 wo 54 [I s.kind,S s.name, .slice xa al xc, .slice ta s.thn.length tc, .slice ea s.els.length ec]->
      CallsIn Fence.wide (n - 1) Tryz.prog 128 #[.slice ta s.thn.length tc, .bool (loop||kb), .func (.yield l) #[] #[]] W4 λe W5=>
       (e= .returned (.bool true)/\W5.cell? (wo,4)=some (.slice ea s.els.length ec)/\CallsIn Fence.wide (n - 1) Tryz.prog 128 #[.slice ea s.els.length ec, .bool loop, .func (.yield l) #[] #[]] W5 λe W6=>
        (e= .returned (.bool true)/\Hid (∃BO:List (jZ B W0),BO.map jZ.key=ez loop (ls.take (k+1))/\J (pre++BO) W6/\mq n₀ nb W W6))\/
        (e= .returned (.bool false)/\Hid (∃q:List (jZ B W0),q.map jZ.key<+:ez loop ls/\Jx (pre++q) W6)))\/
       (e= .returned (.bool false)/\Hid (∃q:List (jZ B W0),q.map jZ.key<+:ez loop ls/\Jx (pre++q) W5)):=λW4 Nc hk4 hr4=>by
     refine(wZ (n - 1) s.thn (loop||kb) _ (pre++(ys++ [it])) W4 iF Nc (HB.out.trans hk4.1) (iZ hk4.1.size) (by
      have:=HN.out;have:=Dk.out;simp only[ax,aq,au];omega)).mono ?_
     rintro e W5 (⟨rfl,vR,Nb,Na,cg⟩|⟨rfl,q,hq,Na⟩)
     ·refine .inl ⟨rfl, ?_,Iw W5 vR (by
       have:pre++(ys++it::vR)=pre++(ys++ [it])++vR:=aH;rw[this];exact Na) (hk4.trans cg) Nb⟩
      exact((cg.row hr4 tT).cell 4).trans rfl
     ·refine .inr ⟨rfl,aF ⟨ys++it::q, ?_, ?_⟩⟩
      ·rw[List.map_append,List.map_cons,HH.out.1,HKEY.out];refine IV _ ?_;rw[List.cons_prefix_cons];exact⟨rfl,hq.trans (List.prefix_append _ _)⟩
      ·have:pre++(ys++it::q)=pre++(ys++ [it])++q:=aH;rw[this];exact Na
    have I3:RoundIn Fence.wide (n - 1) Tryz.prog l fn tmps assign body w3 λe W4=>
      (e= .returned (.bool true)/\W4.cell? (wo,0)=some (I s.kind)/\W4.cell? (wo,3)=some (.slice ta s.thn.length tc)/\CallsIn Fence.wide (n - 1) Tryz.prog 128 #[.slice ta s.thn.length tc, .bool (loop||kb), .func (.yield l) #[] #[]] W4 λe W5=>
       (e= .returned (.bool true)/\W5.cell? (wo,4)=some (.slice ea s.els.length ec)/\CallsIn Fence.wide (n - 1) Tryz.prog 128 #[.slice ea s.els.length ec, .bool loop, .func (.yield l) #[] #[]] W5 λe W6=>
        (e= .returned (.bool true)/\Hid (∃BO:List (jZ B W0),BO.map jZ.key=ez loop (ls.take (k+1))/\J (pre++BO) W6/\mq n₀ nb W W6))\/
        (e= .returned (.bool false)/\Hid (∃q:List (jZ B W0),q.map jZ.key<+:ez loop ls/\Jx (pre++q) W6)))\/
       (e= .returned (.bool false)/\Hid (∃q:List (jZ B W0),q.map jZ.key<+:ez loop ls/\Jx (pre++q) W5)))\/
      (e= .returned (.bool false)/\Hid (∃q:List (jZ B W0),q.map jZ.key<+:ez loop ls/\Jx (pre++q) W4)):=by
     refine hR.mono ?_;rintro e W4 (⟨rfl,Nc,hk4⟩|⟨rfl,Nc⟩)
     ·have hr4:=hk4.row bL tT;refine .inl ⟨rfl,(hr4.cell 0).trans rfl,(hr4.cell 3).trans rfl,Iu W4 (by rw[<-List.append_assoc];exact Nc) (gy.out.trans hk4) hr4⟩
     ·refine .inr ⟨rfl,aF ⟨ys++ [it], ?_,by rw[<-List.append_assoc];exact Nc⟩⟩;rw[List.map_append,List.map_cons,List.map_nil,HH.out.1,HKEY.out];exact IV _ (by rw[List.cons_prefix_cons];exact⟨rfl,List.nil_prefix⟩)
    clear Iw Iu hR tT;cases loop<;>cases kb
    all_goals
     simp only[Bool.or_true,Bool.or_false]at I3
     gi_wp2_with (first|(refine WW 54 (.tmp 8) (.tmp 14) rfl ?_;refine WM rfl 54 (.tmp 8) (.tmp 14) rfl wo _ rfl rfl 54 sZ hn0 aL fV sv0 ?_;rw[World.setRow_alloc_new,<-Ds.out])|((try refine⟨hdd _, ?_⟩);refine I3.mono ?_;clear I3 hc0 hc1 hc2 hc3 xw;rintro e W4 (⟨rfl,c40,c43,ZG⟩|⟨rfl,fh⟩))|(refine⟨trivial,hdd _, ?_⟩;refine ZG.mono ?_;clear ZG;rintro e W5 (⟨rfl,c54,ZH⟩|⟨rfl,kD⟩))|(refine⟨trivial,hdd _, ?_⟩;refine ZH.mono ?_;clear ZH;rintro e W6 (⟨rfl,hf6⟩|⟨rfl,n9⟩))|(refine⟨trivial, ?_⟩))
     all_goals first
      |(gi_roundg (ls.length - (k+1));(case measure=>omega);(case rel=>(obtain⟨BO,h1,h2,h3⟩:=hf6.out;exact⟨k+1,BO,aG,by go_num,aF ⟨h1,h2,h3⟩⟩)))
      |(go_ret;first|exact .inr ⟨rfl,n9.out⟩|exact .inr ⟨rfl,kD.out⟩|exact .inr ⟨rfl,fh.out⟩)
   ·have bT: ¬(k:Int)<(ls.length:Int):=aG
    gi_wp2
    go_ret;refine .inl ⟨rfl,ys, ?_,HH.out.2.1,HH.out.2.2⟩;rw[HH.out.1,List.take_of_length_le aG]
theorem ail (a:Option Addr) (n c:Nat) (loop:Bool) (w:World):
  Calls Tryz.prog 90 #[.slice a n c, .bool loop] w λe w'=>e= .returned (.func (.func 127) #[] #[.pointer (some (w,0)), .pointer (some (w,1,0))])/\w'=(w.alloc (.cells #[.slice a n c] 50)).alloc (.cells #[.bool loop] 4):=by
 have s9:∀(fn:Fn) (first cap:Array Value) (w:World),(Instr.makeFunc fn first cap).run Tryz.prog w= .ok (.func fn first cap) w:=λ_ _ _ _=>rfl;go_enter Tryz.func90,Tryz.ntmps90;go_wp2;go_ret;exact⟨rfl,rfl⟩
theorem agi (n n₀ nb d N:Nat) (B:Nat->Prop) (W0:World) (hn0:n₀=W0.heap.size) (ls:List LS) (loop:Bool) (v:Value) (hv:aP B 5 (RS d B) W0 v ls) (hN:(ez loop ls).length<=N)
  (w:World) (bl bb:Nat) (hb:Below n₀ W0 w) (hnb:nb<w.heap.size) (hl:Row w bl 50 [v]) (hbb:Row w bb 4 [.bool loop]):
  SeqStopsK Fence.wide n Tryz.prog 127 #[.pointer (some (bl,0)), .pointer (some (bb,0))] (Od (B:=B) (W0:=W0)) (mq n₀ nb) (λys=>ys.map jZ.key=ez loop ls) (λys=>ys.map jZ.key<+:ez loop ls) N w:=by
 intro l J Jx W hW hJ Wm hY h0;have hdd:∀k:Nat,(Fence.wide.depth.isSome=true->1<=k):=λk h=>by cases h
 have hl':=hl.ext hW;have hb':=hbb.ext hW;have c0:=hl'.cell 0;have c1:=hb'.cell 0;simp only[af]at c0 c1;have hbW:Below n₀ W0 W:=hb.trans (hW.mono (iZ hb.size));have HW:=aF (walk_in l N n₀ nb B W0 hn0 J Jx W hJ (λm pre x W hj hl=>ai9 m (hY pre x W hj hl)) d (n - 1) ls loop v [] W hv h0 hbW (iZ hW.size) (by simpa using hN));obtain⟨a0,c0',rfl, -⟩:=hv;clear hl hbb hl' hb' hY hJ Wm h0 hbW hb hN hnb hW;refine callsIn_of_wp Tryz.func127 rfl trivial ?_ rfl;simp only[Tryz.ntmps127,List.size_toArray,aq,au,Nat.reduceAdd,Nat.reduceSub,Array.replicate_succ,Array.replicate_zero,List.push_toArray,List.append_toArray,List.nil_append,List.cons_append]
 gi_wp2_with (refine⟨trivial,hdd _, ?_⟩;refine HW.mono ?_;clear HW;rintro e W1 (⟨rfl,ys,hm,hj,hk⟩|⟨rfl,ys,hm,hj⟩))
 all_goals go_end0
 ·exact⟨⟨_,rfl⟩, .inl ⟨ys,hm,by simpa using hj⟩⟩
 ·exact⟨⟨_,rfl⟩, .inr ⟨ys,hm,by simpa using hj⟩⟩
def j3 (p:LP):List aK:=p.arrays.map (·.name)++p.funcs.map (·.name)
theorem JC (p:LP) (av fv:Value) (w:World) (B:Nat->Prop) (hx:PX B w av fv p) (hN:p.arrays.length+p.funcs.length<=1000000000):
  Calls Tryz.prog 50 #[.agg #[av,fv]] w λe w'=>∃v,e= .returned v/\a_ 1 9 fR w' w v (j3 p)/\Below w w w':=by
 obtain⟨aa,ac,fa,fc,rfl,rfl⟩:=hx.slice;have HX:=aF hx;have aI:=aF (cm w (.cells #[.slice aa p.arrays.length ac, .slice fa p.funcs.length fc] 27));have bC:=aF (show Row (w.alloc (.cells #[.slice aa p.arrays.length ac, .slice fa p.funcs.length fc] 27)) w 27 [.slice aa p.arrays.length ac, .slice fa p.funcs.length fc]from cj _ _);have⟨al,hal⟩:=xq (p.arrays.map (·.name));have⟨fl,hfl⟩:=xq (p.funcs.map (·.name));have hgl:j3 p=al++fl:=by rw[hal,hfl];rfl
 have jM:=aF hal;have rQ:=aF hfl;rw[hgl];clear hx hal hfl hgl;go_enter Tryz.func50,Tryz.ntmps50;go_upto_region 2 with(fail)
 go_loopg [2,10] p.arrays.length (λgh v i wr=>∃k:Nat,gh+k=p.arrays.length/\i=I k/\Hid (Below w w wr/\Row wr w 27 [.slice aa p.arrays.length ac, .slice fa p.funcs.length fc]/\a_ 1 9 fR wr (w,1) v (al.take k)))
 case atStart=>exact⟨0,rfl,rfl,aF ⟨aI,bC,a_.nil⟩⟩
 case round=>
  obtain⟨k,hg,rfl,HH⟩:=hrel;obtain⟨wo,rfl⟩:=xq wr;by_cases hlt:k<p.arrays.length
  ·have bT:(k:Int)<(p.arrays.length:Int):=aG;obtain⟨b,o,C,rfl,_,hC,hrx⟩:=(HX.arrays.below HH.out.1 (λC x h=>h)).at hlt;have⟨x,hx⟩:=xq (p.arrays[k]);rw[<-hx]at hrx;obtain⟨h0,h1⟩:=hrx;have e0:=hC 0 aG;have e1:=hC 1 aG;rw[h0]at e0;rw[h1]at e1;simp only[aA]at e0 e1;have htk:al.take (k+1)=al.take k++ [x.name]:=by
    rw[jM.out,List.take_succ_eq_append_getElem (by simpa using hlt)];simp [hx]
   have⟨tl,htl⟩:=xq (al.take k);rw[<-htl]at htk;have hlk:tl.length<=1000000000:=by rw[htl,jM.out,List.length_take,aC];omega
   have ho0:=HH.out.2.2;rw[<-htl]at ho0;have fL:=aF htk;clear hC h0 h1 hx htk htl;go_upto_region 4 with(refine sr 68 (.tmp 4) (.tmp 13) wo aZ hn0 ?_)
   obtain⟨w3,hw3⟩:∃w3,w3=(wo.alloc (.cells aZ 68)).setRow wo #[S x.name,I x.size]:=⟨_,rfl⟩;have hg3:wo.grownBy w3 none:=by rw[hw3,World.setRow_alloc_new];exact cE _ _ _
   have hx3:Row w3 wo 68 [S x.name,I x.size]:=by rw[hw3];exact setRow_heap _ _ _ _ _ _ hn0
   have hb3:Below w w w3:=HH.out.1.grown hg3 HH.out.1.size aJ;have hr3:=HH.out.2.1.kept hg3 aH;have jY:=a_.tag ho0 hg3 eF;rw[<-hw3];have c0:=hx3.cell 0;simp only[af]at c0;have aW:=aF hb3;have bL:=aF hr3;have eU:=aF jY;have hz3:w.heap.size+1<=w3.heap.size:=hr3.lt;clear hw3 hb3 hr3 hx3 e0 e1 hg3 jY ho0;obtain⟨va,vc,rfl⟩:=eU.slice;go_wp2_with (at_builtin;refine lX wu rfl _ _ rfl qC Ho (w.heap.size+1) _ tl rfl (a_.tag eU.out iD eF) w3.heap.size x.name rfl (λj hj=>(cell_of_block (cj w3 (.cells #[S x.name] 9)) j).trans (by simp [fR])) hlk aG ct ?_;intro g2 cap2 w5 fT cD qu uX;have dQ:=aF fT;have cL:=aF ((bL.kept (cE _ (.cells #[S x.name] 9) none) aH).kept cD (λe=>by have:=(cO (a_.tag eU (cE _ (.cells #[S x.name] 9) none) eF) _ e.symm).1;omega));have bW:=aF ((aW.alloc aW.size (.cells #[S x.name] 9)).grown cD ct (λr e=>by have:=(cO (a_.tag eU (cE _ (.cells #[S x.name] 9) none) eF) _ e).1;omega));clear fT cD qu)
   go_roundg (p.arrays.length - (k+1))
   case measure=>omega
   case rel=>exact⟨k+1,aG,by go_num,aF ⟨bW,cL,by rw[fL.out];simpa using dQ.out⟩⟩
  ·have bT: ¬(k:Int)<(p.arrays.length:Int):=aG;have bW:=aF HH.out.1;have dQ:=aF (show a_ 1 9 fR wo (w,1) _ al by have:=HH.out.2.2;rwa[List.take_of_length_le (by rw[jM.out];simp;omega)]at this);have bp:=HH.out.2.1;have c1:=bp.k1;clear HH bp;go_upto_region 7 with(fail)
   go_loopg [2,23] p.funcs.length (λgh v i wr=>∃k:Nat,gh+k=p.funcs.length/\i=I k/\Hid (Below w w wr/\a_ 1 9 fR wr (w,1) v (al++fl.take k)))
   case atStart=>exact⟨0,rfl,rfl,aF ⟨bW,by simpa using dQ.out⟩⟩
   case round=>
    obtain⟨j,hg2,rfl,HH⟩:=hrel;obtain⟨wq,rfl⟩:=xq wr;by_cases qI:j<p.funcs.length
    ·have yO:(j:Int)<(p.funcs.length:Int):=aG;obtain⟨b,o,C,rfl,_,hC,hrx⟩:=(HX.funcs.below HH.out.1 (λC x h=>h.grown (bX HH.out.1 none) aJ)).at qI;have⟨x,hx⟩:=xq (p.funcs[j]);rw[<-hx]at hrx;obtain⟨h0,⟨pa,pc,hpv, -⟩,⟨la,lc,hlv, -⟩,hbody⟩:=hrx;obtain⟨ba,bc,l_⟩:=hbody.slice;have e0:=hC 0 aG;have e1:=hC 1 aG;have e2:=hC 2 aG;have e3:=hC 3 aG;rw[h0]at e0;rw[hpv]at e1;rw[hlv]at e2;rw[l_]at e3;simp only[aA]at e0 e1 e2 e3;have htk:al++fl.take (j+1)=al++fl.take j++ [x.name]:=by
      rw[rQ.out,List.take_succ_eq_append_getElem (by simpa using qI),List.append_assoc];simp [hx]
     have⟨tl,htl⟩:=xq (al++fl.take j);rw[<-htl]at htk;have hlk:tl.length<=1000000000:=by rw[htl,jM.out,rQ.out,ax,List.length_take,aC,aC];omega
     have ho0:=HH.out.2;rw[<-htl]at ho0;have fL:=aF htk;clear hC h0 hpv hlv hbody l_ hx htk htl;go_upto_region 9 with(refine sr 52 (.tmp 6) (.tmp 26) wq CU hn0 ?_)
     obtain⟨w3,hw3⟩:∃w3,w3=(wq.alloc (.cells CU 52)).setRow wq #[S x.name, .slice pa x.params.length pc, .slice la x.locals.length lc, .slice ba x.body.length bc]:=⟨_,rfl⟩;have hg3:wq.grownBy w3 none:=by rw[hw3,World.setRow_alloc_new];exact cE _ _ _
     have hx3:Row w3 wq 52 [S x.name, .slice pa x.params.length pc, .slice la x.locals.length lc, .slice ba x.body.length bc]:=by rw[hw3];exact setRow_heap _ _ _ _ _ _ hn0
     have hb3:Below w w w3:=HH.out.1.grown hg3 HH.out.1.size aJ;have jY:=a_.tag ho0 hg3 eF;rw[<-hw3];have c0:=hx3.cell 0;simp only[af]at c0;have aW:=aF hb3;have eU:=aF jY;have hz3:w.heap.size+1<=w3.heap.size:=by have:=hx3.lt;have:=HH.out.1.size;omega
     clear hw3 hb3 hx3 e0 e1 e2 e3 hg3 jY ho0
     try clear c1
     obtain⟨va,vc,rfl⟩:=eU.slice;go_wp2_with (at_builtin;refine lX wu rfl _ _ rfl qC Ho (w.heap.size+1) _ tl rfl (a_.tag eU.out iD eF) w3.heap.size x.name rfl (λj hj=>(cell_of_block (cj w3 (.cells #[S x.name] 9)) j).trans (by simp [fR])) hlk aG ct ?_;intro g2 cap2 w5 fT cD qu uX;have dQ:=aF fT;have bW:=aF ((aW.alloc aW.size (.cells #[S x.name] 9)).grown cD ct (λr e=>by have:=(cO (a_.tag eU (cE _ (.cells #[S x.name] 9) none) eF) _ e).1;omega));clear fT cD qu)
     go_roundg (p.funcs.length - (j+1))
     case measure=>omega
     case rel=>exact⟨j+1,aG,by go_num,aF ⟨bW,by rw[fL.out];simpa using dQ.out⟩⟩
    ·have yO: ¬(j:Int)<(p.funcs.length:Int):=aG;go_wp2;go_ret;refine⟨_,rfl, ?_,HH.out.1⟩;have:=HH.out.2;rw[List.take_of_length_le (by rw[rQ.out];simp;omega)]at this;exact this.mono aG
end
end Go.Proofs.YtjgbkdbkachciaaGreatDoor
