import Derived.Test.YtjgbkdbkachciaaGreatDoorS7
import Derived.Recover
set_option linter.all false
namespace Go.Proofs.YtjgbkdbkachciaaGreatDoor
set_option maxRecDepth 100000
set_option maxHeartbeats 16000000
section
open Go.RowKit Go.Shelf
attribute [local go_sem] Oper.semAt_some
abbrev IY (base:Nat) (W:World) (v:Value) (l:List LE):Prop:=fW base W v (.mk 0 0 0 [] l)
def UU (k:Nat) (ts:List Tok):Option (LE×List Tok):=match qh [[40]] ts with
 |none=>none
 |some us=>match cF k 1 us with
  |none=>none
  |some (e,vs)=>(qh [[41]] vs).map λr=>(e,r)
theorem af0 (k pb tb:Nat) (ts us:List Tok) (x:LE) (w:World) (h:PS w pb tb ts) (he:gq ts) (hx:UU k ts=some (x,us)):
  Calls Tryz.prog 202 #[.pointer (some (pb,0))] w λe w'=>(∃v,e= .returned v/\IY w w' v [x])/\PG w pb tb us w'/\gq us:=by
 obtain⟨t0,r0,rfl⟩:=he.cons;have hpl:=h.lt;have htl:=h.zA;unfold UU at hx;cases hw1:qh [[40]] (t0::r0)with
 |none=>rw[hw1]at hx;cases hx
 |some Jc=>
  rw[hw1]at hx;simp only[]at hx;obtain⟨hn0,MG⟩:=he.want hw1;cases hc:cF k 1 Jc with
  |none=>rw[hc]at hx;cases hx
  |some p=>
   obtain⟨e,gZ⟩:=p;rw[hc]at hx;simp only[]at hx;obtain⟨r',hw,hx2⟩:=Option.map_eq_some_iff.1 hx;clear hx;simp only[Prod.mk.injEq]at hx2;obtain⟨rfl,rfl⟩:=hx2;have HW0:=aF (λW sb (hh:PS W pb tb (t0::r0)) (hs:Row W sb 9 ([[40]].map S))=>B6 pb tb sb 1 1 [[40]] (t0::r0) Jc W hh hs rfl hw1 hn0 aH);have eA:=aF (λW (hh:PS W pb tb Jc)=>N0 (eOk k) pb tb Jc gZ e W hh MG hc);have vL:=aF (λW sb (hh:PS W pb tb gZ) (hs:Row W sb 9 ([[41]].map S)) (hen:gq gZ)=>B6 pb tb sb 1 1 [[41]] gZ r' W hh hs rfl hw (hen.want hw).1 aH);have Gu:=aF (λ(hen:gq gZ)=>(hen.want hw).2);have gT:=aF h;clear he h hw1 hn0 MG hc hw;go_enter Tryz.func202,Tryz.ntmps202;go_upto_region 3 with(first|(go_at_call 72;refine(HW0 _ w (gT.ext jI) hn0).mono ?_;rintro e' w2⟨⟨v2,rfl⟩,hp2⟩;have eX:=aF ((PG.start gT (cm w _)).trans hp2);clear hp2)|(go_at_call 226;refine(eA w2 eX.2).mono ?_;rintro e w4⟨⟨av,rfl,ha,kg⟩,hen⟩;have hsz:=eX.1.size;have HA:=aF (ha.mono (base':=w.heap.size) aG);obtain⟨aa,ac,rfl⟩:=ha.slice;have bH:=aF (eX.out.trans kg);have jK:=aF hen;clear kg hen ha))
   have⟨w5,bQ⟩:=xq (w4.alloc (.cells #[.int .i64 e.kind, .int .i64 e.op, .int .i64 e.n, .string ⟨e.name.toArray⟩, .slice aa e.args.length ac] 31));have bp:=dZ bQ;have nL:PG w pb tb gZ w5:=by rw[bQ];exact bH.below jI
   have Ex:fW w w5 (.slice aa e.args.length ac) e:=by rw[bQ];exact HA.alloc
   have pE:w4.heap.size<w5.heap.size:=by rw[bQ];simp
   rw[<-bQ];have cL:=aF bp;have dW:=aF nL;have Gv:=aF Ex;have Lz:w4.heap.size≠pb:=by have:=bH.1.size;omega
   clear bQ bp nL Ex;go_upto_region 4 with(go_at_call 72;refine(vL _ w5 (dW.2.ext jI) hn0 jK).mono ?_;rintro e' w6⟨⟨v6,rfl⟩,fU⟩;have fD:=aF ((dW.below jI).trans fU);have C9:=aF (Gv.alloc.pg fU aG);have dU:=fU.row (ho0 cL.out) Lz;have dJ:=aF dU;have ym:=fU.1.size;rw[World.size_alloc]at ym;clear fU dU)
   have c0:=dJ.cell 0;have c1:=dJ.cell 1;have c2:=dJ.cell 2;have c3:=dJ.cell 3;have c4:=dJ.cell 4;simp only[l6,ag,af]at c0 c1 c2 c3 c4;have Eo:=bH.1.size;go_wp2;have⟨w7,cT⟩:=xq (w6.alloc (.cells #[I e.kind,I e.op,I e.n,S e.name, .slice aa e.args.length ac] 31));have kV:=dZ cT
   have iE:PG w pb tb r' w7:=by rw[cT];exact fD.below jI
   have Gd:fW w w7 (.slice aa e.args.length ac) e:=by rw[cT];exact C9.alloc
   have cX:IY w w7 (.slice (some (w6,0)) 1 1) [e]:=fW.one (x:=e) rfl aG kV Gd;rw[<-cT];clear cT;go_ret;exact⟨⟨_,rfl,cX⟩,iE,Gu jK⟩
abbrev sZ:Array Value:= #[.int .i64 0, .string ⟨#[]⟩, .slice none 0 0, .slice none 0 0, .slice none 0 0]
abbrev Rv:aK:= [98,114,101,97,107]
abbrev Q3:aK:= [99,111,110,116,105,110,117,101]
abbrev NZ:aK:= [114,101,116,117,114,110]
abbrev Rw:aK:= [112,114,105,110,116]
def Pp (k:Nat):List Tok->Option (LS×List Tok)
 | []=>none
 |t::r=>
  if fE t Rv then none else if fE t Q3 then none
  else if fE t NZ then(cF k 1 r).map λp=>(.mk 7 [] [p.1] [] [],p.2)
  else if fE t Rw then(UU k r).map λp=>(.mk 8 [] [p.1] [] [],p.2)
  else none
def RO (w:World) (pb tb:Nat) (s:LS) (us:List Tok) (e:Ending) (w':World):Prop:=∃av,e= .returned (.agg #[I s.kind,S s.name,av, .slice none 0 0, .slice none 0 0])/\IY w.heap.size w' av s.args/\PG w pb tb us w'/\s.thn= []/\s.els= []
theorem ZM {w w4:World} {pb tb:Nat} {us:List Tok} {s:LS} {av:Value} {cs:Array Value} (iE:PG w pb tb us w4) (_hk:w4.heap[w.heap.size]? =some (.cells cs 54 (0,0))) (cX:IY (w,1) w4 av s.args) (ht:tb<w.heap.size) (hp:pb<w.heap.size) (h1:s.thn= []) (h2:s.els= []):
  RO w pb tb s us (.returned (.agg #[I s.kind,S s.name,av, .slice none 0 0, .slice none 0 0])) (w4.setRow w #[I s.kind,S s.name,av, .slice none 0 0, .slice none 0 0]):=
 ⟨av,rfl,(cX.grown bJ bh).mono aG,iE.new fQ bJ ht hp,h1,h2⟩
theorem afZ (k pb tb:Nat) (ts us:List Tok) (s:LS) (w:World) (h:PS w pb tb ts) (he:gq ts) (hx:Pp k ts=some (s,us)):
  Calls Tryz.prog 204 #[.pointer (some (pb,0))] w λe w'=>RO w pb tb s us e w'/\gq us:=by
 obtain⟨t,r,rfl⟩:=he.cons;have hpl:=h.lt;have htl:=h.zA;have⟨w1,hw1⟩:=xq (w.alloc (.cells sZ 54));have hb1:=gI hw1;have hz1:w1.heap.size=w.heap.size+1:=by rw[hw1];simp
 have dO:w.alloc (.cells sZ 54)=w1:=hw1.symm;have h1:=h.ext hb1;have nZ:=aF hw1;have aI:=aF hb1;have iy:=aF (PG.start h1 (Below.refl _ w1));rw[Pp]at hx;cases hbk:fE t Rv
 case true=>rw[hbk]at hx;simp at hx
 cases hct:fE t Q3
 case true=>rw[hbk,hct]at hx;simp at hx
 rw[hbk,hct]at hx;simp only[Bool.false_eq_true,if_false]at hx;have HBK:=aF (tG pb tb t r Rv w1 h1 hbk);have gw:=aF (λW (hh:PS W pb tb (t::r))=>tG pb tb t r Q3 W hh hct);cases hrt:fE t NZ
 ·rw[hrt]at hx;simp only[Bool.false_eq_true,if_false]at hx;have UW:=aF (λW (hh:PS W pb tb (t::r))=>tG pb tb t r NZ W hh hrt);cases qx:fE t Rw
  case false=>rw[qx]at hx;simp at hx
  rw[qx]at hx;simp only[if_true]at hx;obtain⟨⟨e,gZ⟩,hin,hx2⟩:=Option.map_eq_some_iff.1 hx;clear hx;simp only[Prod.mk.injEq]at hx2;obtain⟨rfl,rfl⟩:=hx2;obtain⟨j_,hre⟩:=he.tail (Dw qx);have zC:=aF (λW (hh:PS W pb tb (t::r))=>B_ pb tb t r Rw W hh qx j_);have uw:=aF (λW (hh:PS W pb tb r)=>af0 k pb tb r gZ e W hh hre hin);clear h he h1 hb1 hw1 hbk hct hrt qx hin j_ hre;go_enter Tryz.func204,Tryz.ntmps204;go_upto_region 3 with(go_at_call 74;refine aN HBK λw2 hb2=> ?_;have eX:=aF (iy.below hb2))
  go_upto_region 5 with(go_at_call 74;refine aN (gw w2 eX.2) λw3 hb3=> ?_;have fO:=aF (eX.below hb3))
  go_upto_region 7 with(go_at_call 74;refine aN (UW w3 fO.2) λw4 hb4=> ?_;have bH:=aF (fO.below hb4))
  go_wp2_with (first|(go_at_call 74;refine aN (zC w4 bH.2) λw5 nL=> ?_;have dW:=aF (bH.out.trans nL))|(go_at_call 202;refine(uw w5 dW.2).mono ?_;rintro e' w6⟨⟨av,rfl,ha⟩,fU,hen⟩;have hsz:=dW.1.size;have HA:=aF (ha.mono (base':=w.heap.size+1) aG);obtain⟨aa,ac,rfl⟩:=ha.slice;have fD:=aF (dW.out.trans fU);have jK:=aF hen;have ir:=aF ((dW.out.trans fU).zero nZ hpl);clear fU hen ha)|(refine sr 54 (.tmp 2) (.tmp 25) w sZ ir.out ?_))
  refine bodyPost_ret (results_cell_row rfl _ _ w 54 _ (0,0) _ rfl (setRow_heap _ _ _ _ _ _ ir.out) Tryz.underlying54 rfl aL) rfl ?_;exact⟨ZM (s:= .mk 8 [] [e] [] []) (fD.pre aI) ir HA htl hpl rfl rfl,jK⟩
 ·rw[hrt]at hx;simp only[if_true]at hx;obtain⟨⟨e,gZ⟩,hc,hx2⟩:=Option.map_eq_some_iff.1 hx;clear hx;simp only[Prod.mk.injEq]at hx2;obtain⟨rfl,rfl⟩:=hx2;obtain⟨j_,hre⟩:=he.tail (Dw hrt);have UW:=aF (λW (hh:PS W pb tb (t::r))=>B_ pb tb t r NZ W hh hrt j_);have eA:=aF (λW (hh:PS W pb tb r)=>N0 (eOk k) pb tb r gZ e W hh hre hc);clear h he h1 hb1 hw1 hbk hct hrt hc j_ hre;go_enter Tryz.func204,Tryz.ntmps204;go_upto_region 3 with(go_at_call 74;refine aN HBK λw2 hb2=> ?_;have eX:=aF (iy.below hb2))
  go_upto_region 5 with(go_at_call 74;refine aN (gw w2 eX.2) λw3 hb3=> ?_;have fO:=aF (eX.below hb3))
  go_wp2_with (first|(go_at_call 74;refine aN (UW w3 fO.2) λw4 kg=> ?_;have bH:=aF (fO.out.trans kg))|(go_at_call 226;refine(eA w4 bH.2).mono ?_;rintro e' w5⟨⟨av,rfl,ha,nL⟩,hen⟩;have hsz:=bH.1.size;have HA:=aF (ha.mono (base':=w.heap.size+1) aG);obtain⟨aa,ac,rfl⟩:=ha.slice;have dW:=aF (bH.out.trans nL);have jK:=aF hen;have apf:=(bH.out.trans nL).1.size;have dG:=aF ((bH.out.trans nL).zero nZ hpl);have ir:=aF (show(w5.alloc (.cells #[I e.kind,I e.op,I e.n,S e.name, .slice aa e.args.length ac] 31)).heap[w.heap.size]? =some (.cells sZ 54 (0,0))from dV _ _ dG.out);clear nL hen ha)|(refine sr 54 (.tmp 2) (.tmp 19) w sZ ir.out ?_))
  have⟨w6,iN⟩:=xq (w5.alloc (.cells #[I e.kind,I e.op,I e.n,S e.name, .slice aa e.args.length ac] 31));have mX:w6.heap[w.heap.size]? =some (.cells sZ 54 (0,0)):=by rw[iN];exact ir.out
  have dU:=dZ iN;have iE:PG w pb tb gZ w6:=by rw[iN];exact(dW.below jI).pre aI
  have Gd:fW (w,1) w6 (.slice aa e.args.length ac) e:=by rw[iN];exact HA.alloc
  have cX:IY (w,1) w6 (.slice (some (w5,0)) 1 1) [e]:=fW.one (x:=e) rfl aG dU Gd;rw[<-iN];clear iN ir;refine bodyPost_ret (results_cell_row rfl _ _ w 54 _ (0,0) _ rfl (setRow_heap _ _ _ _ _ _ mX) Tryz.underlying54 rfl aL) rfl ?_;exact⟨ZM (s:= .mk 7 [] [e] [] []) iE mX cX htl hpl rfl rfl,jK⟩
abbrev Vk:aK:= [105,102]
abbrev Rz:aK:= [119,104,105,108,101]
def PE (k:Nat):List Tok->Option (LS×List Tok)
 | []=>none
 |t::r=>if fE t Vk then none else if fE t Rz then none else match Pp k (t::r)with
  |none=>none
  |some (s,us)=>(qh [[59]] us).map λr'=>(s,r')
theorem ahz (k pb tb:Nat) (ts us:List Tok) (s:LS) (w:World) (h:PS w pb tb ts) (he:gq ts) (hx:PE k ts=some (s,us)):
  Calls Tryz.prog 176 #[.pointer (some (pb,0))] w λe w'=>RO w pb tb s us e w'/\gq us:=by
 obtain⟨t,r,rfl⟩:=he.cons;have hpl:=h.lt;have htl:=h.zA;have⟨w1,hw1⟩:=xq (w.alloc (.cells sZ 54));have hb1:=gI hw1;have hz1:w1.heap.size=w.heap.size+1:=by rw[hw1];simp
 have dO:w.alloc (.cells sZ 54)=w1:=hw1.symm;have h1:=h.ext hb1;have nZ:=aF hw1;have aI:=aF hb1;have iy:=aF (PG.start h1 (Below.refl _ w1));rw[PE]at hx;cases hi:fE t Vk
 case true=>rw[hi]at hx;simp at hx
 cases PF:fE t Rz
 case true=>rw[hi,PF]at hx;simp at hx
 rw[hi,PF]at hx;simp only[Bool.false_eq_true,if_false]at hx;cases Eu:Pp k (t::r)with
 |none=>rw[Eu]at hx;cases hx
 |some p=>
  obtain⟨s',gZ⟩:=p;rw[Eu]at hx;simp only[]at hx;obtain⟨r',hw,hx2⟩:=Option.map_eq_some_iff.1 hx;clear hx;simp only[Prod.mk.injEq]at hx2;obtain⟨rfl,rfl⟩:=hx2;have HIF:=aF (tG pb tb t r Vk w1 h1 hi);have Vl:=aF (λW (hh:PS W pb tb (t::r))=>tG pb tb t r Rz W hh PF);have PI:=aF (λW (hh:PS W pb tb (t::r))=>afZ k pb tb (t::r) gZ s' W hh he Eu);have vL:=aF (λW sb (hh:PS W pb tb gZ) (hs:Row W sb 9 ([[59]].map S)) (hen:gq gZ)=>B6 pb tb sb 1 1 [[59]] gZ r' W hh hs rfl hw (hen.want hw).1 aH);have Gu:=aF (λ(hen:gq gZ)=>(hen.want hw).2);clear h he h1 hb1 hw1 hi PF Eu hw;go_enter Tryz.func176,Tryz.ntmps176;go_upto_region 6 with(go_at_call 74;refine aN HIF λw2 hb2=> ?_;have eX:=aF (iy.below hb2))
  go_upto_region 9 with(go_at_call 74;refine aN (Vl w2 eX.2) λw3 hb3=> ?_;have fO:=aF (eX.below hb3))
  have hz3:=fO.1.size;go_upto_region 10 with(first|(go_at_call 204;refine(PI w3 fO.2).mono ?_;rintro e' w4⟨⟨av,rfl,ha,kg,Mv,hel⟩,hen⟩;have HA:=aF (ha.mono (base':=w.heap.size+1) aG);obtain⟨aa,ac,rfl⟩:=ha.slice;have bH:=aF (fO.out.trans kg);have jK:=aF hen;have bR:=aF ((fO.out.trans kg).zero nZ hpl);have Vm:=aF Mv;have Mw:=aF hel;clear kg hen ha Mv hel)|(refine sr 54 (.tmp 2) (.tmp 29) w sZ bR.out ?_))
  have⟨w5,bQ⟩:=xq (w4.setRow w #[I s'.kind,S s'.name, .slice aa (LE.mk 0 0 0 [] s'.args).args.length ac, .slice none 0 0, .slice none 0 0]);have cL:=aF (show Row w5 w 54 [I s'.kind,S s'.name, .slice aa (LE.mk 0 0 0 [] s'.args).args.length ac, .slice none 0 0, .slice none 0 0] by rw[bQ];exact setRow_heap _ _ _ _ _ _ bR.out);have dW:=aF (show PG w pb tb gZ w5 by rw[bQ];exact(bH.pre aI).new fQ bJ htl hpl);have Gv:=aF (show IY (w,1) w5 (.slice aa (LE.mk 0 0 0 [] s'.args).args.length ac) s'.args by rw[bQ];exact HA.grown bJ bh);rw[<-bQ];clear bQ;go_wp2_with (go_at_call 72;refine(vL _ w5 (dW.2.ext jI) hn0 jK).mono ?_;rintro e' w6⟨⟨v6,rfl⟩,fU⟩;have dU:Row w6 w 54 [I s'.kind,S s'.name, .slice aa (LE.mk 0 0 0 [] s'.args).args.length ac, .slice none 0 0, .slice none 0 0]:=fU.row (ho0 cL.out) aG;have dJ:=aF dU;have C9:=aF (Gv.alloc.pg fU aG);have fD:=aF ((dW.below jI).trans fU);clear fU dU)
  refine bodyPost_ret (results_cell_row rfl _ _ w 54 _ (0,0) _ rfl dJ.out Tryz.underlying54 rfl aL) rfl ?_;exact⟨⟨_,rfl,C9.mono aG,fD,Vm,Mw⟩,Gu jK⟩
def RS:Nat->(Nat->Prop)->World->(Nat->Value)->LS->Prop
 |0,_,_,_,_=>False
 |d+1,B,W,C,s=>C 0=I s.kind/\C 1=S s.name/\EX B W (C 2) (.mk 0 0 0 [] s.args)/\aP B 5 (RS d B) W (C 3) s.thn/\aP B 5 (RS d B) W (C 4) s.els
theorem RS.grown:∀(d:Nat) {B:Nat->Prop} {w w':World} {row:Option Nat} (_:w.grownBy w' row) (_:∀r,row=some r-> ¬B r) {C:Nat->Value} {s:LS},RS d B w C s->RS d B w' C s
 |0,_,_,_,_,_,_,_,_,h=>h
 |d+1,_,_,_,_,hg,hB,_,_,⟨h0,h1,h2,h3,h4⟩=>⟨h0,h1,h2.grown hg hB,h3.grown hg hB λ_ _ h=>RS.grown d hg hB h,h4.grown hg hB λ_ _ h=>RS.grown d hg hB h⟩
theorem RS.weak:∀(d:Nat) {B B':Nat->Prop} {w:World} (_:∀b,B b->B' b) {C:Nat->Value} {s:LS},RS d B w C s->RS d B' w C s
 |0,_,_,_,_,_,_,h=>h
 |d+1,_,_,_,hB,_,_,⟨h0,h1,h2,h3,h4⟩=>⟨h0,h1,h2.weak hB,h3.weak hB λ_ _ h=>RS.weak d hB h,h4.weak hB λ_ _ h=>RS.weak d hB h⟩
theorem RS.succ:∀(d:Nat) {B:Nat->Prop} {w:World} {C:Nat->Value} {s:LS},RS d B w C s->RS (d+1) B w C s
 |0,_,_,_,_,h=>h.elim
 |d+1,_,_,_,_,⟨h0,h1,h2,h3,h4⟩=>⟨h0,h1,h2,h3.weak (λ_ h=>h) λ_ _ h=>RS.succ d h,h4.weak (λ_ h=>h) λ_ _ h=>RS.succ d h⟩
theorem RS.le {d d':Nat} (h:d<=d') {B:Nat->Prop} {w:World} {C:Nat->Value} {s:LS} (hr:RS d B w C s):RS d' B w C s:=by
 induction h with
 |refl=>exact hr
 |step _ ih=>exact RS.succ _ ih
def SX (B:Nat->Prop) (W:World) (v:Value) (l:List LS):Prop:=∃d,aP B 5 (RS d B) W v l
theorem SX.grown {B:Nat->Prop} {w w':World} {row:Option Nat} {v:Value} {l:List LS} (h:SX B w v l) (hg:w.grownBy w' row) (hr:∀r,row=some r-> ¬B r):SX B w' v l:=by
 obtain⟨d,h⟩:=h;exact⟨d,h.grown hg hr λ_ _ h=>RS.grown d hg hr h⟩
theorem SX.alloc {B:Nat->Prop} {w:World} {o:Obj} {v:Value} {l:List LS} (h:SX B w v l):SX B (w.alloc o) v l:=h.grown (cE w o none) aJ
theorem SX.ext {B:Nat->Prop} {w w':World} {n:Nat} {v:Value} {l:List LS} (h:SX B w v l) (hb:Below n w w') (hn:w.heap.size<=n):SX B w' v l:=h.grown (bX (hb.mono hn) none) aJ
theorem SX.weak {B B':Nat->Prop} {w:World} {v:Value} {l:List LS} (h:SX B w v l) (hb:∀b,B b->B' b):SX B' w v l:=by
 obtain⟨d,h⟩:=h;exact⟨d,h.weak hb λ_ _ h=>RS.weak d hb h⟩
theorem SX.slice {B:Nat->Prop} {w:World} {v:Value} {l:List LS} (h:SX B w v l):∃a c,v= .slice a l.length c:=by
 obtain⟨d,a,c,h,_⟩:=h;exact⟨a,c,h⟩
structure SA where
 s:LS
 a:Option Addr
 c:Nat
abbrev SA.av (p:SA):Value:= .slice p.a p.s.args.length p.c
def Ij (p:SA):List Value:= [I p.s.kind,S p.s.name,p.av, .slice none 0 0, .slice none 0 0]
theorem YV (p:SA):(Ij p).length=5:=rfl
theorem ahu (p:SA):∀u∈Ij p,u.oneCell'=true:=by intro u hu;simp [Ij]at hu;rcases hu with rfl|rfl|rfl|rfl|rfl<;>rfl
theorem H6:oZ 50 54 5 96:=oZ.mk' (z:= .agg #[.int .i64 0, .string ByteArray.empty, .slice none 0 0, .slice none 0 0, .slice none 0 0]) Tryz.underlying50 aL rfl aQ
theorem a_.l7 {α β:Type} {k e:Nat} {enc:α->List Value} {w:World} {base:Nat} {v:Value} {l:List α} {R:World->(Nat->Value)->β->Prop} (f:α->β) (h:a_ k e enc w base v l) (hk:∀x,(enc x).length=k) (hl:l.length<=1000000000) (hR:∀x∈l,R w (λj=>(enc x).getD j undef) (f x)):aP (base<=·) k R w v (l.map f):=by
 obtain⟨a,c,hv⟩:=h.slice;refine⟨a,c,by rw[aC];exact hv,by rw[aC];exact hl, ?_⟩;cases l with
 |nil=>exact .inl rfl
 |cons x0 l0=>
  right;obtain⟨g,c',hv',hbg,_⟩:=h.cell hk (i:=0) aH;have ha:a=some ⟨g,0,none⟩:=by rw[hv]at hv';simp at hv';exact hv'.1
  refine⟨g,0,ha,hbg,λi x hx=> ?_⟩;rw[List.getElem?_map]at hx;have hi:i<(x0::l0).length:=by
   rcases Nat.lt_or_ge i (x0::l0).length with h'|h'
   ·exact h'
   ·rw[List.getElem?_eq_none h']at hx;cases hx
  rw[ah hi]at hx;simp only[Option.map_some,Option.some.injEq]at hx;obtain⟨g2,c2,hv2,_,hcell⟩:=h.cell hk hi;obtain rfl:g2=g:=by rw[hv']at hv2;simp at hv2;exact hv2.1.symm
  refine⟨λj=>(enc (x0::l0)[i]).getD j undef,λj hj=> ?_,by rw[<-hx];exact hR _ (ak hi)⟩;rw[Nat.zero_add,(hcell j hj).1];have:j<(enc (x0::l0)[i]).length:=by rw[hk];exact hj
  simp [this]
theorem a_.stmts {w:World} {base:Nat} {v:Value} {l:List SA} (h:a_ 5 54 Ij w base v l) (hl:l.length<=1000000000) (hA:∀p∈l,EX (base<=·) w p.av (.mk 0 0 0 [] p.s.args)/\p.s.thn= []/\p.s.els= []):SX (base<=·) w v (l.map SA.s):=by
 refine⟨1,h.l7 SA.s YV hl λp hp=> ?_⟩;obtain⟨h1,h2,h3⟩:=hA p hp;exact⟨rfl,rfl,h1,by rw[h2];exact aP.nil _ _ _ _,by rw[h3];exact aP.nil _ _ _ _⟩
def IG (k:Nat):Nat->List Tok->Option (List LS×List Tok)
 |0,_=>none
 |_+1,[]=>none
 |g+1,t::r=>if fE t [125]then some ([],r)else match PE k (t::r)with
  |none=>none
  |some (s,us)=>(IG k g us).map λp=>(s::p.1,p.2)
def O4 (wr:World) (base:Nat) (v:Value) (done:List SA):Prop:=a_ 5 54 Ij wr base v done/\∀p∈done,EX (λb=>base<=b/\b<wr.heap.size/\v.ownBlock≠some b) wr p.av (.mk 0 0 0 [] p.s.args)/\p.s.thn= []/\p.s.els= []
theorem O4.grown {w w':World} {base:Nat} {v:Value} {done:List SA} {row:Option Nat} (h:O4 w base v done) (hg:w.grownBy w' row) (hr:∀r,row=some r->r<base):O4 w' base v done:=by
 have hsz:=hg.size;refine⟨j0 h.1 hg ?_,λp hp=> ?_⟩
 ·cases hv:v.ownBlock with
  |none=>exact .inl rfl
  |some k=>
   right;intro e;have:=hr k e.symm;have:=(cO h.1 k hv).1;omega
 ·obtain⟨h1,h2⟩:=h.2 p hp;exact⟨(h1.grown hg (λr e hb=>by have:=hr r e;omega)).weak λb hb=>⟨hb.1,aG,hb.2.2⟩,h2⟩
theorem PG.own {a b c:World} {pb tb:Nat} {ts:List Tok} {row:Option Nat} (h:PG a pb tb ts b) (hg:b.grownBy c row) (hr:∀r,row=some r->a.heap.size<=r) (ht:tb<a.heap.size) (hp:pb<a.heap.size):PG a pb tb ts c:=by
 cases row with
 |none=>exact h.new (row:=a.heap.size) fQ ⟨hg.os,hg.tape,hg.output,hg.size,λi hi _=>hg.block i hi aH⟩ ht hp
 |some r=>exact h.new (hr r rfl) hg ht hp
theorem ag8 (k pb tb fuel:Nat) (ts us:List Tok) (l:List LS) (w:World) (h:PS w pb tb ts) (he:gq ts) (hf:fuel<=100000) (hx:IG k fuel ts=some (l,us)):
  Calls Tryz.prog 115 #[.pointer (some (pb,0))] w λe w'=>(∃v,e= .returned v/\SX (w.heap.size<=·) w' v l)/\PG w pb tb us w'/\gq us:=by
 obtain⟨t0,r0,rfl⟩:=he.cons;have hpl:=h.lt;have htl:=h.zA;have gT:=aF (PG.start h (Below.refl _ w));have HX:=aF hx;have HE:=aF he;clear h hx he;go_enter Tryz.func115,Tryz.ntmps115;go_wp2;go_loopg [2] fuel (λgh v2 wr=>∃(done:List SA) (ts':List Tok) (l':List LS),gh+done.length<=100000/\Hid (PG w pb tb ts' wr/\gq ts'/\O4 wr w v2 done/\IG k gh ts'=some (l',us)/\l=done.map SA.s++l'))
 case atStart=>exact⟨[],t0::r0,l,by simpa using hf,aF ⟨gT.out,HE.out,⟨a_.nil,aJ⟩,HX.out,rfl⟩⟩
 case round=>
  obtain⟨done,ts',l',xF,HH⟩:=hrel;obtain⟨wo,rfl⟩:=xq wr;obtain⟨hp,hen,Eu,hst,hl⟩:=HH.out;obtain⟨t,r,rfl⟩:=hen.cons;obtain⟨g1,rfl⟩:∃g1,gk=g1+1:=by
   cases gk with
   |zero=>rw[IG]at hst;cases hst
   |succ g=>exact⟨g,rfl⟩
  rw[IG]at hst;have HP:=aF hp;have PI:=aF Eu;have HL:=aF hl;have hz0:=hp.1.size;cases htk:fE t [125]
  ·rw[htk]at hst;simp only[Bool.false_eq_true,if_false]at hst;cases hs:PE k (t::r)with
   |none=>rw[hs]at hst;cases hst
   |some p=>
    obtain⟨s,gZ⟩:=p;rw[hs]at hst;simp only[]at hst;obtain⟨⟨l2,We⟩,abL,hx2⟩:=Option.map_eq_some_iff.1 hst;clear hst;simp only[Prod.mk.injEq]at hx2;obtain⟨rfl,rfl⟩:=hx2;have fL:=aF (tG pb tb t r [125] wo hp.2 htk);have HST:=aF (λW (hh:PS W pb tb (t::r))=>ahz k pb tb (t::r) gZ s W hh hen hs);have cu:=aF abL;have lV:done.length<=1000000000:=aG;have hms:g1<g1+1:=aG;have TY:g1+(done.length+1)<=100000:=aG;clear hp hen Eu abL hl htk hs HH xF;go_upto_region 2 with(go_at_call 74;refine aN fL λw1 hb1=> ?_;have iy:=aF (HP.below hb1);have fI:=aF (PI.grown (bX hb1 none) aJ))
    have hz1:=iy.1.size;go_wp2_with (first|(go_at_call 176;refine(HST w1 iy.2).mono ?_;rintro e' w2⟨⟨av,rfl,ha,hp2,Mv,hel⟩,hen⟩;have hz2:=hp2.1.size;obtain⟨aa,ac,rfl⟩:=ha.slice;have HA:=aF ha;have fN:=aF (fI.grown hp2.1 (λr e=>by cases e;exact hpl));have eX:=aF (iy.out.trans hp2);have jK:=aF hen;have HTE:=aF (And.intro Mv hel);clear hp2 hen ha Mv hel)|(at_builtin;refine lX H6 rfl (.tmp 6) (.tmp 9) rfl YV ahu w.heap.size _ done rfl (fN.1.tag iD eF) w2.heap.size ⟨s,aa,ac⟩ rfl (λj hj=>(cell_of_block hn0 j).trans (by simp [Ij,SA.av,LE.args])) lV aG ct ?_;intro g2 cap2 w3 jY hg3 abM T8;have eU:=aF jY;have Ja:=aF hg3;have alK:=aF abM;clear jY hg3 abM))
    go_roundg g1
    case measure=>exact hms
    case rel=>
     refine⟨done++ [⟨s,aa,ac⟩],gZ,l2,by simpa using TY,aF ⟨?_,jK.out,⟨eU.out,λp hp=> ?_⟩,cu.out,by rw[HL.out];simp⟩⟩
     ·exact(eX.below jI).own Ja (λr e=>(cO fN.1 r e).1) htl hpl
     ·have ap9:(w2.alloc (.cells #[I s.kind,S s.name, .slice aa (LE.mk 0 0 0 [] s.args).args.length ac, .slice none 0 0, .slice none 0 0] 54)).heap.size=w2.heap.size+1:=aH;have hz3:=Ja.size;have hnb:∀b,w.heap.size<=b->b<w2.heap.size->u2.ownBlock≠some b->w.heap.size<=b/\b<w3.heap.size/\(Value.slice (some (g2,0)) (done.length+1) cap2).ownBlock≠some b:=by
       intro b h1 h2 h3;refine⟨h1,aG,λe=> ?_⟩;simp only[Value.ownBlock,Option.some.injEq]at e;subst e;rcases alK.out with h4|h4
       ·exact h3 h4
       ·omega
      rcases List.mem_append.1 hp with hp|hp
      ·obtain⟨h1,h2⟩:=fN.2 p hp;exact⟨(h1.alloc.grown Ja (λr e hb=>hb.2.2 e)).weak λb hb=>hnb b hb.1 hb.2.1 hb.2.2,h2⟩
      ·obtain rfl:=ai hp;have h1:EX (w1.heap.size<=·) w2 (.slice aa (LE.mk 0 0 0 [] s.args).args.length ac) (.mk 0 0 0 [] s.args):=HA.out;have h5:∀r,u2.ownBlock=some r->r<w1.heap.size:=λr e=>(cO fI.1 r e).2;exact⟨((h1.size.alloc).grown Ja (λr e hb=>by have:=h5 r e;omega)).weak λb hb=>hnb b aG hb.2 (λe=>by have:=h5 b e;omega),HTE⟩
  ·rw[htk]at hst;simp only[if_true]at hst;simp only[Option.some.injEq,Prod.mk.injEq]at hst;obtain⟨rfl,rfl⟩:=hst;obtain⟨j_,hre⟩:=hen.tail (Dw htk);have fL:=aF (B_ pb tb t r [125] wo hp.2 htk j_);have fP:=aF hre;have lV:done.length<=1000000000:=aG;clear hp hen Eu hl htk HH j_ hre;go_wp2_with (go_at_call 74;refine aN fL λw1 hp1=> ?_;have iy:=aF (HP.out.trans hp1);have fI:=aF (PI.grown hp1.1 (λr e=>by cases e;exact hpl)))
   go_ret;exact⟨⟨_,rfl,by rw[HL.out,List.append_nil];exact fI.1.stmts lV (λp hp=>⟨(fI.2 p hp).1.weak λb hb=>hb.1,(fI.2 p hp).2⟩)⟩,iy,fP⟩
theorem afR (pb tb:Nat) (t:Tok) (r:List Tok) (fv:Value) (w:World) (h:PS w pb tb (t::r)) (hx:fE t [41]=true) (hr:r≠ []):
  Calls Tryz.prog 113 #[.pointer (some (pb,0)),fv] w λe w'=>(∃v,e= .returned v)/\PG w pb tb r w':=by
 have fL:=aF (B_ pb tb t r [41] w h hx hr);clear h hx hr;go_enter Tryz.func113,Tryz.ntmps113;go_wp2_with (go_at_call 74;refine aN fL λw1 iy=> ?_)
 refine bodyPost_ret (results_none rfl _ _ _) rfl ?_;exact⟨⟨_,rfl⟩,iy⟩
theorem jF {w:World} {o:Obj} {k:Nat} (h:k=w.heap.size):(w.alloc o).heap[k]? =some o:=by rw[h];exact cj _ _
theorem ha0{w:World} {o:Obj} {k:Nat} (h:k=w.heap.size:=by simp):(w.alloc o).heap[k]? =some o:=jF h
abbrev Fj:aK:= [105,110,116]
abbrev fZ:Array Value:= #[.string ⟨#[]⟩, .slice none 0 0, .slice none 0 0, .slice none 0 0]
def Pm (k g:Nat) (nm:aK):List Tok->Option (LF×List Tok)
 | []=>none
 |t::r=>if fE t [41]then match qh [[123]] r with
   |none=>none
   |some []=>none
   |some (t2::r2)=>if fE t2 Fj then none else(IG k g (t2::r2)).map λp=>(⟨nm,[],[],p.1⟩,p.2)
  else none
def aj3 (w:World) (pb tb:Nat) (f:LF) (us:List Tok) (e:Ending) (w':World):Prop:=∃bv,e= .returned (.agg #[S f.name, .slice none 0 0, .slice none 0 0,bv])/\SX (w.heap.size<=·) w' bv f.body/\PG w pb tb us w'/\f.params= []/\f.locals= []
theorem ae_ (k g pb tb:Nat) (nm:aK) (ts us:List Tok) (f:LF) (w:World) (h:PS w pb tb ts) (he:gq ts) (hg:g<=100000) (hx:Pm k g nm ts=some (f,us)):
  Calls Tryz.prog 76 #[.pointer (some (pb,0)),S nm] w λe w'=>aj3 w pb tb f us e w'/\gq us:=by
 obtain⟨t,r,rfl⟩:=he.cons;have hpl:=h.lt;have htl:=h.zA;rw[Pm]at hx;cases htk:fE t [41]
 case false=>rw[htk]at hx;simp at hx
 rw[htk]at hx;simp only[if_true]at hx;obtain⟨j_,hre⟩:=he.tail (Dw htk);cases hwt:qh [[123]] r with
 |none=>rw[hwt]at hx;cases hx
 |some rr=>
  cases rr with
  |nil=>rw[hwt]at hx;cases hx
  |cons t2 r2=>
   rw[hwt]at hx;simp only[]at hx;obtain⟨eD,iW⟩:=hre.want hwt;cases hin:fE t2 Fj
   case true=>rw[hin]at hx;simp at hx
   rw[hin]at hx;simp only[Bool.false_eq_true,if_false]at hx;obtain⟨⟨l,We⟩,hst,hx2⟩:=Option.map_eq_some_iff.1 hx;clear hx;simp only[Prod.mk.injEq]at hx2;obtain⟨rfl,rfl⟩:=hx2;have Wn:=aF (λW fv (hh:PS W pb tb (t::r))=>afR pb tb t r fv W hh htk j_);have vL:=aF (λW sb (hh:PS W pb tb r) (hs:Row W sb 9 ([[123]].map S))=>B6 pb tb sb 1 1 [[123]] r (t2::r2) W hh hs rfl hwt eD aH);have fL:=aF (λW (hh:PS W pb tb (t2::r2))=>tG pb tb t2 r2 Fj W hh hin);have HST:=aF (λW (hh:PS W pb tb (t2::r2))=>ag8 k pb tb g (t2::r2) We l W hh iW hg hst);have gT:=aF h;have⟨n,hn⟩:=xq w.heap.size;clear h he htk j_ hre hwt eD iW hin hst hg;go_enter Tryz.func76,Tryz.ntmps76;go_upto_region 2 with(refine sr 52 (.tmp 5) (.tmp 7) (w.heap.size+1+1) fZ (jF aH) ?_)
   obtain⟨w3,hw3⟩:∃w3,w3=((((w.alloc (.cells #[.pointer (some (pb,0))] 89)).alloc (.cells fZ 52)).alloc (.cells fZ 52)).setRow (w.heap.size+1+1) #[S nm, .slice none 0 0, .slice none 0 0, .slice none 0 0]):=⟨_,rfl⟩;have hr3:Row w3 w 89 [.pointer (some (pb,0))]:=by
    rw[hw3];exact(setRow_other _ _ _ _ aG).trans (ho0 (ho0 hn0))
   have hk3:Row w3 (w,1) 52 [.string ⟨#[]⟩, .slice none 0 0, .slice none 0 0, .slice none 0 0]:=by
    rw[hw3];exact(setRow_other _ _ _ _ aG).trans (ho0 (jF aH))
   have hf3:Row w3 (w.heap.size+1+1) 52 [S nm, .slice none 0 0, .slice none 0 0, .slice none 0 0]:=by
    rw[hw3];exact setRow_heap _ _ _ _ _ _ (jF aH)
   have mU:PG w pb tb (t::r) w3:=by
    rw[hw3];exact(PG.start gT (((cm w _).alloc aH _).alloc ct _)).new aG bJ htl hpl
   have hz3:=mU.1.size;have VR:=hf3.lt;have c0:=hr3.cell 0;simp only[af]at c0;rw[<-hw3];have bL:=aF hr3;have gy:=aF hk3;have HF3:=aF hf3;have fO:=aF mU;clear hw3 hr3 hk3 hf3 mU;go_upto_region 3 with(go_at_call 113;refine(Wn w3 _ fO.2).mono ?_;rintro e' w4⟨⟨v4,rfl⟩,kg⟩;have bH:=aF (fO.out.trans kg);have hr4:=kg.row bL aG;have bU:=aF hr4;have bR:=aF (kg.row gy aG);have fM:=aF (kg.row HF3 aG);clear kg c0;have c0:=hr4.cell 0;simp only[af]at c0;clear hr4)
   have Eo:=bH.1.size;go_upto_region 4 with(go_at_call 72;refine(vL _ w4 (bH.2.ext jI) hn0).mono ?_;rintro e' w5⟨⟨v5,rfl⟩,nL⟩;have dW:=aF ((bH.below jI).trans nL);have bp:=nL.row (ho0 bU.out) aG;have cL:=aF bp;have dG:=aF (nL.row (ho0 bR.out) aG);have dM:=aF (nL.row (ho0 fM.out) aG);clear nL c0;have c0:=bp.cell 0;simp only[af]at c0;clear bp)
   go_loopg [] 0 (λgh wr=>wr=w5)
   case atStart=>rfl
   case round=>
    obtain rfl:=hrel;obtain⟨wo,rfl⟩:=xq wr;have pE:=dW.1.size;go_upto_region 7 with(go_at_call 74;refine aN (fL wo dW.2) λw6 bV=> ?_;have fD:=aF (dW.below bV);have dU:=cL.ext bV;have dJ:=aF dU;have ir:=bA dG bV;have Aw:=bA dM bV;clear c0;have c0:=dU.cell 0;simp only[af]at c0;clear dU)
    have ym:=fD.1.size;have BJ:=Aw.lt;go_upto_region 8 with(go_at_call 115;refine(HST w6 fD.2).mono ?_;rintro e' w7⟨⟨bv,rfl,hb⟩,vS,hen⟩;obtain⟨ba,bc,rfl⟩:=hb.slice;have iK:=aF (hb.weak (B':=(w.heap.size+3<=·)) (λb hb=>by omega));have jK:=aF hen;have sY:=aF (fD.out.trans vS);have nI:=aF (vS.row ir aG);have pJ:=vS.row Aw aG;have pK:=aF pJ;clear vS c0 hb hen;have c3:=pJ.k3;have f3:=pJ.frozen 3;clear pJ)
    have⟨w8,nP⟩:=xq (w7.setCell (w.heap.size+1+1,3) (.slice ba l.length bc));have lI:w7.grownBy w8 (some (w.heap.size+1+1)):=by rw[nP];exact bO _ _ _ _
    have Nl:Row w8 (w.heap.size+1+1) 52 [S nm, .slice none 0 0, .slice none 0 0, .slice ba l.length bc]:=by rw[nP];exact pK.set 3 _
    have kW:=bI nI lI;have qR:=aF (sY.new aG lI htl hpl);have yf:=aF (iK.grown lI bh);have d0:=Nl.k0;have d1:=Nl.k1;have d2:=Nl.k2;have d3:=Nl.k3;rw[<-nP];clear nP lI Nl c3 f3;go_wp2_with (refine sr 52 (.tmp 4) (.tmp 29) (w.heap.size+1) fZ kW.out ?_)
    refine bodyPost_ret (results_cell_row rfl _ _ (w.heap.size+1) 52 _ (0,0) _ rfl (setRow_heap _ _ _ _ _ _ kW.out) Tryz.underlying52 rfl aL) rfl ?_;exact⟨⟨_,rfl,(yf.grown bJ bh).weak λb hb=>by omega,qR.new aG bJ htl hpl,rfl,rfl⟩,jK⟩
def dc (_:World) (C:Nat->Value) (x:aK):Prop:=C 0=S x
def wO (_:World) (C:Nat->Value) (x:LA):Prop:=C 0=S x.name/\C 1=I x.size
def RF (B:Nat->Prop) (W:World) (C:Nat->Value) (f:LF):Prop:=C 0=S f.name/\aP B 1 dc W (C 1) f.params/\aP B 1 dc W (C 2) f.locals/\SX B W (C 3) f.body
theorem RF.grown {B:Nat->Prop} {w w':World} {row:Option Nat} (hg:w.grownBy w' row) (hB:∀r,row=some r-> ¬B r) {C:Nat->Value} {f:LF} (h:RF B w C f):RF B w' C f:=
 ⟨h.1,h.2.1.grown hg hB λ_ _ h=>h,h.2.2.1.grown hg hB λ_ _ h=>h,h.2.2.2.grown hg hB⟩
theorem RF.weak {B B':Nat->Prop} {w:World} (hB:∀b,B b->B' b) {C:Nat->Value} {f:LF} (h:RF B w C f):RF B' w C f:=
 ⟨h.1,h.2.1.weak hB λ_ _ h=>h,h.2.2.1.weak hB λ_ _ h=>h,h.2.2.2.weak hB⟩
structure PX (B:Nat->Prop) (W:World) (av fv:Value) (p:LP):Prop where
 arrays:aP B 2 wO W av p.arrays
 funcs:aP B 4 (RF B) W fv p.funcs
theorem PX.grown {B:Nat->Prop} {w w':World} {row:Option Nat} (hg:w.grownBy w' row) (hB:∀r,row=some r-> ¬B r) {av fv:Value} {p:LP} (h:PX B w av fv p):PX B w' av fv p:=
 ⟨h.1.grown hg hB λ_ _ h=>h,h.2.grown hg hB λ_ _ h=>h.grown hg hB⟩
theorem PX.below {B:Nat->Prop} {w w':World} {av fv:Value} {p:LP} (h:PX B w av fv p) (hb:Below w w w'):PX B w' av fv p:=h.grown (bX hb none) aJ
theorem PX.weak {B B':Nat->Prop} {w:World} (hB:∀b,B b->B' b) {av fv:Value} {p:LP} (h:PX B w av fv p):PX B' w av fv p:=
 ⟨h.1.weak hB λ_ _ h=>h,h.2.weak hB λ_ _ h=>h.weak hB⟩
theorem PX.slice {B:Nat->Prop} {w:World} {av fv:Value} {p:LP} (h:PX B w av fv p):∃a c a' c',av= .slice a p.arrays.length c/\fv= .slice a' p.funcs.length c':=by
 obtain⟨⟨a,c,h1,_⟩,⟨a',c',h2,_⟩⟩:=h;exact⟨a,c,a',c',h1,h2⟩
structure FA where
 f:LF
 a:Option Addr
 c:Nat
abbrev FA.bv (p:FA):Value:= .slice p.a p.f.body.length p.c
def Ol (p:FA):List Value:= [S p.f.name, .slice none 0 0, .slice none 0 0,p.bv]
theorem YR (p:FA):(Ol p).length=4:=rfl
theorem ahi (p:FA):∀u∈Ol p,u.oneCell'=true:=by intro u hu;simp [Ol]at hu;rcases hu with rfl|rfl|rfl|rfl<;>rfl
theorem N8:oZ 25 52 4 88:=oZ.mk' (z:= .agg #[.string ByteArray.empty, .slice none 0 0, .slice none 0 0, .slice none 0 0]) Tryz.underlying25 aL rfl aQ
def F5 (k g:Nat):List Tok->Option (LF×List Tok)
 | []=>none
 |t::r=>if t.kind=5 then none else match qh [Fj] (t::r)with
  |none=>none
  |some []=>none
  |some (t2::r2)=>if t2.kind≠1 then none else match r2 with
   | []=>none
   |t3::r3=>if fE t3 [91]then none else match qh [[40]] (t3::r3)with
    |none=>none
    |some us=>match Pm k g t2.text us with
     |none=>none
     |some (_f,[])=>none
     |some (f,e::vs)=>if e.kind=5 then some (f,e::vs)else none
abbrev pZ:Array Value:= #[.slice none 0 0, .slice none 0 0]
theorem ahj (k g pb tb:Nat) (ts us:List Tok) (f:LF) (w:World) (h:PS w pb tb ts) (he:gq ts) (hg:g<=100000) (hx:F5 k g ts=some (f,us)):
  Calls Tryz.prog 42 #[.pointer (some (pb,0))] w λe w'=>∃fv,e= .returned (.agg #[.slice none 0 0,fv])/\PX (w.heap.size<=·) w' (.slice none 0 0) fv ⟨[],[f]⟩/\PG w pb tb us w'/\∃t r,us=t::r/\t.kind=5:=by
 obtain⟨t,r,rfl⟩:=he.cons;have hpl:=h.lt;have htl:=h.zA;rw[F5]at hx;split at hx
 ·cases hx
 next Mj=>
 cases hw1:qh [Fj] (t::r)with
 |none=>rw[hw1]at hx;cases hx
 |some q=>
 cases q with
 |nil=>rw[hw1]at hx;cases hx
 |cons t2 r2=>
 rw[hw1]at hx;simp only[]at hx;split at hx
 ·cases hx
 next ht1=>
 cases r2 with
 |nil=>cases hx
 |cons t3 r3=>
 simp only[]at hx;cases Bk:fE t3 [91]
 case true=>rw[Bk]at hx;simp at hx
 rw[Bk]at hx;simp only[Bool.false_eq_true,if_false]at hx;cases hw2:qh [[40]] (t3::r3)with
 |none=>rw[hw2]at hx;cases hx
 |some gZ=>
 rw[hw2]at hx;simp only[]at hx;cases hf:Pm k g t2.text gZ with
 |none=>rw[hf]at hx;cases hx
 |some q=>
 obtain⟨f',vs⟩:=q;rw[hf]at hx;cases vs with
 |nil=>cases hx
 |cons e vs=>
 simp only[]at hx;split at hx
 case isFalse=>cases hx
 next dL=>
 simp only[Option.some.injEq,Prod.mk.injEq]at hx;obtain⟨rfl,rfl⟩:=hx;have ht1':t2.kind=1:=aG;obtain⟨gV,he1⟩:=he.want hw1;obtain⟨jm,iM⟩:=he1.tail aG;obtain⟨Pn,cV⟩:=iM.want hw2;have apd:(t.kind !=5)=true:=by rw[bne_iff_ne];exact Mj
 have ape:(e.kind !=5)=false:=by rw[dL];rfl
 have IU:=N9;have qQ:=aF (λW (hh:PS W pb tb (t::r))=>E5 pb tb t r W hh);have HWI:=aF (λW sb (hh:PS W pb tb (t::r)) (hs:Row W sb 9 ([Fj].map S))=>B6 pb tb sb 1 1 [Fj] (t::r) (t2::t3::r3) W hh hs rfl hw1 gV aH);have cv:=aF (λW (hh:PS W pb tb (t2::t3::r3))=>Yx pb tb t2 (t3::r3) W hh jm ht1');have rN:=aF (λW (hh:PS W pb tb (t3::r3))=>tG pb tb t3 r3 [91] W hh Bk);have HWP:=aF (λW sb (hh:PS W pb tb (t3::r3)) (hs:Row W sb 9 ([[40]].map S))=>B6 pb tb sb 1 1 [[40]] (t3::r3) gZ W hh hs rfl hw2 Pn aH);have eT:=aF (λW (hh:PS W pb tb gZ)=>ae_ k g pb tb t2.text gZ (e::vs) f' W hh cV hg hf);have tR:=aF (λW (hh:PS W pb tb (e::vs))=>E5 pb tb e vs W hh);have cZ:=aF dL;have⟨w1,Om⟩:=xq (w.alloc (.cells pZ 27));have dO:w.alloc (.cells pZ 27)=w1:=Om.symm;have hb1:=gI Om;have bC:=aF (dZ Om);have iy:=aF (PG.start h hb1);clear h he hw1 hw2 hf he1 gV jm iM Pn cV ht1 ht1' Bk hg Om hb1 Mj dL;go_enter Tryz.func42,Tryz.ntmps42;go_wp2;go_loopg [3] 1 (λgh v3 wr=>(gh=1/\wr=w1)\/(gh=0/\Hid (PG w pb tb (e::vs) wr/\∃fv,Row wr w 27 [.slice none 0 0,fv]/\PX (w.heap.size+1<=·) wr (.slice none 0 0) fv ⟨[],[f']⟩)))
 case atStart=>exact .inl ⟨rfl,rfl⟩
 case round=>
  rcases hrel with⟨rfl,rfl⟩|⟨rfl,HH⟩
  ·obtain⟨wo,rfl⟩:=xq wr;clear dO;have hz1:=iy.1.size;have nY:=bC.lt;go_upto_region 2 with(go_at_call 70;refine(qQ wo iy.2).mono ?_;rintro e' w2⟨rfl,hb2⟩;have eX:=aF (iy.below hb2);have cB:=bA bC hb2;have hz2:=hb2.size;clear hb2)
   go_upto_region 4 with(first|(go_at_call 72;refine(HWI _ w2 (eX.2.ext jI) hn0).mono ?_;rintro e' w3⟨⟨v3,rfl⟩,mU⟩;have bL:=aF (mU.row (ho0 cB.out) aG);have fO:=aF ((eX.below jI).trans mU);clear mU)|(go_at_call 73;refine(cv w3 fO.2).mono ?_;rintro e' w4⟨rfl,kg⟩;have hr4:=kg.row bL aG;have c1:=hr4.k1;have bU:=aF hr4;have bH:=aF (fO.out.trans kg);clear hr4 kg))
   go_upto_region 7 with(go_at_call 74;refine aN (rN w4 bH.2) λw5 bz=> ?_;have cL:=bA bU bz;have dW:=aF (bH.below bz))
   clear c1;go_upto_region 8 with(go_at_call 72;refine(HWP _ w5 (dW.2.ext jI) hn0).mono ?_;rintro e' w6⟨⟨v6,rfl⟩,fU⟩;have dU:=fU.row (ho0 cL.out) aG;have c1:=dU.k1;have dJ:=aF dU;have fD:=aF ((dW.below jI).trans fU);clear dU fU)
   refine cC (λW=>W.cell? (w,1)=some (.slice none 0 0)) [0,0,0,0,1,1,1,0,2] ?hS ?_
   case hS=>intro wd hh;simp only[World.cell?,hh]at c1|-;exact c1
   intro wd hh hgd hS;have rP:=bI dJ hgd;have sY:Hid (PG w pb tb gZ wd):=fD.own hgd aJ htl hpl;clear c1 hh hgd;refine nE ?_;go_wp2_with (go_at_call 76;refine(eT wd sY.2).mono ?_;rintro e' w8⟨⟨bv,rfl,hb,Ef,F_,hfl⟩,hen⟩;obtain⟨ba,bc,rfl⟩:=hb.slice;have yf:=aF hb;have lU:=Ef.row rP aG;have oF:=aF lU;have qR:=aF (sY.out.trans Ef);have IV:=aF F_;have rQ:=aF hfl;clear hb lU Ef F_ hfl hen)
   refine bw (oF.cell 1) λhS=> ?_;have Ga:=sY.1.size;have hl7:=rP.lt;have hz8:=qR.1.size;refine h_ ?_;go_wp2;refine bw (Row.cell (ho0 oF.out) 1) λhS=> ?_
   have⟨w9,lq⟩:=xq (w8.alloc (.cells #[S f'.name, .slice none 0 0, .slice none 0 0, .slice ba f'.body.length bc] 52));have CP:=dZ lq;have CV:=aF (show Row w9 w 27 [.slice none 0 0, .slice none 0 0] by rw[lq];exact dV _ _ oF.out);have tS:=aF (show PG w pb tb (e::vs) w9 by rw[lq];exact qR.below jI);have vk:=aF (show SX (wd.heap.size<=·) w9 (.slice ba f'.body.length bc) f'.body by rw[lq];exact yf.alloc);rw[<-lq]at hS|-;have HN9:=aF CP;have hz9:w8.heap.size<w9.heap.size:=by rw[lq];simp
   clear lq CP;refine h_ ?_;go_wp2_with (at_builtin;refine lX N8 rfl _ _ rfl YR ahi (w.heap.size+1) (.slice none 0 0) [] rfl a_.nil w8.heap.size ⟨f',ba,bc⟩ rfl (λj hj=>(cell_of_block HN9.out j).trans (by simp [Ol,FA.bv])) aH aG aG ?_;intro g2 cap2 Gb yR Ig aji ao3;have Fk:=aF yR;have Sj:=aF Ig;clear yR Ig aji)
   have Kn:=aF (CV.kept Sj (by simp [Value.ownBlock]));refine bw (Kn.cell 1) λhS=> ?_;refine wV ?_;refine nu ?_;have f1:=Kn.frozen 1;go_wp2;refine iG (kK ?_);go_wp2;go_roundg 0
   case measure=>omega
   case rel=>
    refine .inr ⟨rfl,aF ⟨?_,_,Kn.set 1 _, ?_⟩⟩
    ·exact((tS.own Sj aJ htl hpl).own (bO _ _ _ _) bh htl hpl)
    ·refine⟨aP.nil _ _ _ _, ?_⟩;have A7:SX (w.heap.size+1<=·) Gb (.slice ba f'.body.length bc) f'.body:=(vk.grown Sj aJ).weak λb hb=>by omega
     have Oo:aP (w.heap.size+1<=·) 4 (RF (w.heap.size+1<=·)) Gb (.slice (some (g2,0)) 1 cap2) [f']:=by
      refine a_.l7 (l:= [⟨f',ba,bc⟩]) FA.f Fk.out YR aH λx hx=> ?_;obtain rfl:=ai hx;exact⟨rfl,by rw[IV.out];exact aP.nil _ _ _ _,by rw[rQ.out];exact aP.nil _ _ _ _,A7⟩
     exact Oo.grown (bO _ _ _ _) bh (λC x h=>h.grown (bO _ _ _ _) bh)
  ·obtain⟨wo,rfl⟩:=xq wr;obtain⟨hp,fv,hr,hpx⟩:=HH.out;have HP:=aF hp;have HR:=aF hr;have HX:=aF hpx;clear hp hr hpx;go_wp2_with (go_at_call 70;refine aN (tR wo HP.2) λw2 hb2=> ?_;have eX:=aF (HP.below hb2);have cB:=bA HR hb2;have aY:=aF (HX.below hb2))
   refine bodyPost_ret (results_cell_row rfl _ _ w 27 _ (0,0) _ rfl cB.out Tryz.underlying27 rfl aL) rfl ?_;exact⟨fv,rfl,aY.weak λb hb=>by omega,eX,e,vs,rfl,cZ⟩
theorem agw (w:World):(Instr.typeAssert Value.nilIface 20 114 true).run Tryz.prog w= .ok (.tuple #[.agg #[I 0], .bool false]) w:=aL
theorem aft (p4 p5 p6:Value) (w:World):
  CallsD Tryz.prog 69 #[p4,p5,p6] .returning w λe u' w'=>e= .returned (.tuple #[])/\u'= .returning/\Below w w w':=by
 refine callsD_of_wpS Tryz.func69 rfl λc₀ cs hu=> ?_;apply wpS_seq;apply wpS_region;have I9:=agw;simp [wpOpsS,go_sem,recoverD,hu,Tryz.ntmps69,Exit.thenS,I9];apply wpS_seq;apply wpS_region;simp [wpOpsS,go_sem,Exit.thenS];refine wpS_cond (t:=false) (by simp [Act.eval,Array.replicate]) ?_;simp only[Bool.false_eq_true,if_false];refine wpS_of_wp (wp_skip ?_);have hb:=cm w (.cells #[.int .i64 0] 114);cases c₀
 simp_all [bodyPostS,results,Tryz.results69]
theorem ah6 {w:World} {base:Nat} {v:Value} {lR:List Tok} (h:a_ 4 119 wR w base v lR) (hne:lR≠ []):∃tb c,v= .slice (some ⟨tb,0,none⟩) lR.length c/\lR.length<=c/\base<=tb/\tb<w.heap.size/\A_ w tb 0 lR:=by
 have h0:0<lR.length:=List.length_pos_iff.2 hne;have hcell:∀i,(hi:i<lR.length)->_:=λi hi=>a_.cell h Ri hi;rcases h.2 with⟨rfl,h1⟩|⟨g,cap,cur,rfl,hb,hg,hc,_⟩
 ·omega
 ·refine⟨g,cap,rfl,hc,hb,(aD hg).1,λi t ht j hj=> ?_⟩;have hi:i<lR.length:=(aj ht).1;obtain⟨g2,c2,hv,_,hcl⟩:=hcell i hi;simp only[Value.slice.injEq,Option.some.injEq,Addr.mk.injEq]at hv;obtain rfl:g2=g:=hv.1.1.symm;rw[Nat.zero_add,(hcl j hj).1];have:lR[i]=t:=by
   rw[ah hi]at ht;exact Option.some.inj ht
  rw[this]
theorem afc {k g:Nat} {ts us:List Tok} {f:LF} (h:F5 k g ts=some (f,us)):ts≠ []:=by
 rintro rfl;cases h
theorem PS.grown {W W':World} {pb tb:Nat} {ts:List Tok} {row:Option Nat} (h:PS W pb tb ts) (hg:W.grownBy W' row) (h1:some pb≠row) (h2:some tb≠row):PS W' pb tb ts:=by
 obtain⟨o,c,k1,k2,k3,k4⟩:=h;exact⟨o,c,k1,tZ hg k2 h1,k3,k4.ext hg h2⟩
theorem ae4 {tmps:Array Value} {w:World} {n:Nat} {a b x y:Value} (h4:tmps.getD 4 undef= .pointer (some (n,0))) (h5:tmps.getD 5 undef= .pointer (some (n+1,0))) (h6:tmps.getD 6 undef= .pointer (some (n+1+1,0)))
  (hr:Row w n 27 [a,b]) (hs:Row w (n+1) 44 [x]) (ht:Row w (n+1+1) 3 [y]):(results Tryz.f41 tmps).run Tryz.prog w= .ok (.tuple #[.agg #[a,b],x,y]) w:=by
 have h4':tmps[4]?.getD undef= .pointer (some (n,0)):=by simpa using h4
 have UZ:tmps[5]?.getD undef= .pointer (some (n+1,0)):=by simpa using h5
 have h6':tmps[6]?.getD undef= .pointer (some (n+1+1,0)):=by simpa using h6
 have s0:=hs.cell 0;have t0:=ht.cell 0;simp only[af]at s0 t0;have r0:=hr.k0;have r1:=hr.k1;simp [results,h4',UZ,h6',asAddr,go_sem,r0,r1,s0,t0]
theorem agK (l0:aK) (ha:eH l0) (hl:l0.length<=20000) (fuel k g:Nat) (lR us:List Tok) (f:LF) (ht:DI fuel 1 l0=some lR) (hg:g<=100000) (he:gq lR) (hp:F5 k g lR=some (f,us)) (w:World):
  Calls Tryz.prog 41 #[S l0, .func (.func 42) #[] #[]] w λe w'=>∃fv,e= .returned (.tuple #[.agg #[.slice none 0 0,fv],I 0,I 0])/\PX (w.heap.size<=·) w' (.slice none 0 0) fv ⟨[],[f]⟩/\Below w w w':=by
 have s9:∀(fn:Fn) (first cap:Array Value) (w:World),(Instr.makeFunc fn first cap).run Tryz.prog w= .ok (.func fn first cap) w:=λ_ _ _ _=>rfl;have IU:=N9;have nM:=aF (λW=>ahs l0 ha hl fuel lR ht W);have zC:=aF (λW pb tb (hh:PS W pb tb lR)=>ahj k g pb tb lR us f W hh he hg hp);have tR:=aF (afc hp);clear ha hl ht hg he hp;go_enter_defers Tryz.func41,Tryz.ntmps41
 go_upto_region 1 with(fail)
 obtain⟨w0,hw0⟩:∃w0,w0=((w.alloc (.cells pZ 27)).alloc (.cells #[.int .i64 0] 44)).alloc (.cells #[.int .i64 0] 3):=⟨_,rfl⟩;have b_:Row w0 w 27 [.slice none 0 0, .slice none 0 0]:=by rw[hw0];exact dV _ _ (ho0 hn0)
 have hs0:Row w0 (w,1) 44 [.int .i64 0]:=by rw[hw0];exact dV _ _ ha0
 have ht0:Row w0 (w.heap.size+1+1) 3 [.int .i64 0]:=by rw[hw0];exact jF aH
 have hb0:Below w w w0:=by rw[hw0];exact((cm w _).alloc aH _).alloc ct _
 have hz0:=hb0.size;have hl0:=ht0.lt;rw[<-hw0];have bg:=aF hb0;have oC:=aF b_;have zx:=aF hs0;have HT0:=aF ht0;clear hw0 b_ hs0 ht0 hb0;go_upto_region 2 with(go_at_call 68;refine(nM w0).mono ?_;rintro e' w1⟨v,rfl,ho,hb1⟩;obtain⟨tb,c,rfl,hc,rU,htl,htk⟩:=ah6 ho tR;have hr1:=oC.ext hb1;have hs1:=zx.ext hb1;have ht1:=HT0.ext hb1;have s0:=hs1.cell 0;have t0:=ht1.cell 0;have s0f:=hs1.frozen 0;have t0f:=ht1.frozen 0;simp only[af]at s0 t0;have bC:=aF hr1;have fI:=aF hs1;have mJ:=aF ht1;have aI:=aF (bg.out.trans (hb1.mono hz0));have fL:=aF htk;clear ho hb1 htk hr1 hs1 ht1)
 have hz1:=aI.size;have nY:=mJ.lt;obtain⟨w2,hw2⟩:∃w2,w2=((w1.setCell (w,1,0) (I 0)).setCell (w.heap.size+1+1,0) (I 0)):=⟨_,rfl⟩;have hg1:=bO w1 (w,1) 0 (I 0);have hg2:=bO (w1.setCell (w,1,0) (I 0)) (w.heap.size+1+1) 0 (I 0);rw[<-hw2]at hg2;have I3:Row w2 w 27 [.slice none 0 0, .slice none 0 0]:=(bC.kept hg1 aH).kept hg2 ct;have jL:Row w2 (w,1) 44 [I 0]:=by rw[hw2];exact Row.kept (fI.set 0 (I 0)) (bO _ _ _ _) aH
 have g_:Row w2 (w.heap.size+1+1) 3 [I 0]:=by rw[hw2];exact Row.set (mJ.kept hg1 aH) 0 (I 0)
 have Pr:Below w w w2:=(aI.grown hg1 aG bh).grown hg2 (iZ hg1.size) bh;have hK2:A_ w2 tb 0 lR:=(fL.ext hg1 ct).ext hg2 ct;have qI:tb<w2.heap.size:=by have:=hg1.size;have:=hg2.size;omega
 rw[<-hw2];have cB:=aF I3;have cu:=aF jL;have fe:=aF g_;have aM:=aF Pr;have jr:=aF hK2;have s0:=jL.cell 0;simp only[af]at s0;clear hw2 hg1 hg2 I3 jL g_ Pr hK2 t0 s0f t0f;have HPS:Hid (PS (w2.alloc (.cells #[.slice (some (tb,0)) lR.length c] 117)) w2.heap.size tb lR):=⟨0,c,hc,cj _ _,aG,jr.ext iD aH⟩;have hz2:=aM.size;have hl2:=fe.lt;go_upto_region 7 with(first|(go_at_call 42;refine(zC _ _ _ HPS).mono ?_;rintro e' w3⟨fv,rfl,hpx,iE,t,r,rfl,h5⟩;obtain⟨_,_,fa,fc,_,rfl⟩:=hpx.slice;have bq:=aF hpx;have fO:=aF iE;have H5:=aF h5;have bL:=aF (iE.row (ho0 cB.out) aG);have gB:=aF (iE.row (ho0 cu.out) aG);have iF:=aF (iE.row (ho0 fe.out) aG);clear hpx iE h5)|(refine sr 27 (.tmp 4) (.tmp 26) w pZ bL.out ?_))
 have hz3:=fO.1.size;rw[World.size_alloc]at hz3;have⟨w4,hw4⟩:=xq (w3.setRow w #[.slice none 0 0, .slice fa 1 fc]);have hg4:w3.grownBy w4 (some w):=by rw[hw4];exact bJ
 have hr4:Row w4 w 27 [.slice none 0 0, .slice fa 1 fc]:=by rw[hw4];exact setRow_heap _ _ _ _ _ _ bL.out
 have bH:=aF (fO.2.grown hg4 ct ct);have cI:=aF (bq.grown hg4 (λr e=>by cases e;simp;omega));have bU:=aF hr4;have o7:=bI gB hg4;have U0:=aF (iF.kept hg4 ct);have hb3:Below w w w3:=(aM.alloc hz2 _).grown fO.1 ct bh;have aR:=aF (hb3.grown hg4 aG bh);have h5n:(t.kind !=5)=false:=by rw[H5.out];rfl
 rw[<-hw4];clear hw4 hg4 hr4 hb3 s0;go_upto_region 9 with(go_at_call 70;refine aN (E5 _ tb t r w4 bH) λw5 bz=> ?_;have bp:=bU.ext bz;have cL:=aF bp;have hs5:=o7.ext bz;have Mj:=U0.ext bz;have ur:=aF hs5;have HT5:=aF Mj;have rV:=aF (cI.below bz);have bW:=aU aR bz;clear bp hs5 Mj)
 have r50:=cL.k0;have r51:=cL.k1;have pE:=bW.size;have⟨w6,iN⟩:=xq (w5.setRow w #[.slice none 0 0, .slice fa 1 fc]);have bG:w5.grownBy w6 (some w):=by rw[iN];exact bJ
 have dU:Row w6 w 27 [.slice none 0 0, .slice fa 1 fc]:=by rw[iN];exact setRow_heap _ _ _ _ _ _ cL.out
 have rS:=aF (rV.grown bG (λr e=>by cases e;simp;omega));have dJ:=aF dU;have rW:=ur.kept bG aH;have Pt:=HT5.kept bG ct;have zE:=aF rW;have HT6:=aF Pt;have cY:=aF (bW.grown bG aG bh);have s60:=rW.cell 0;have t60:=Pt.cell 0;have s6f:=rW.frozen 0;have t6f:=Pt.frozen 0;simp only[af]at s60 t60;have HW6:=aF iN;clear iN bG dU rW Pt;go_wp2_with (refine sr 27 (.tmp 4) (.tmp 33) w #[.slice none 0 0, .slice fa 1 fc] cL.out ?_;rw[<-HW6.out])
 obtain⟨w7,cT⟩:∃w7,w7=((w6.setCell (w,1,0) (I 0)).setCell (w.heap.size+1+1,0) (I 0)):=⟨_,rfl⟩;have hg1:=bO w6 (w,1) 0 (I 0);have hg2:=bO (w6.setCell (w,1,0) (I 0)) (w.heap.size+1+1) 0 (I 0);rw[<-cT]at hg2;have ym:=cY.size;have hR7:Row w7 w 27 [.slice none 0 0, .slice fa 1 fc]:=(dJ.kept hg1 aH).kept hg2 ct;have hS7:Row w7 (w,1) 44 [I 0]:=by rw[cT];exact Row.kept (zE.set 0 (I 0)) (bO _ _ _ _) aH
 have hT7:Row w7 (w.heap.size+1+1) 3 [I 0]:=by rw[cT];exact Row.set (HT6.kept hg1 aH) 0 (I 0)
 have U1:Below w w w7:=(cY.grown hg1 aG bh).grown hg2 (iZ hg1.size) bh;have hX7:=(rS.grown hg1 (λr e=>by cases e;simp;omega)).grown hg2 (λr e=>by cases e;simp;omega);rw[<-cT];refine leaves_cons (f:=69) (args:= #[.pointer (some (w,0)), .pointer (some (w,1,0)), .pointer (some (w.heap.size+1+1,0))]) aH (by simp [go_sem]) ?_;refine(aft _ _ _ w7).mono ?_;rintro e' u' w8⟨rfl,rfl,mY⟩;have hR8:=hR7.ext mY;have Ml:=hS7.ext mY;have hT8:=hT7.ext mY;have U2:=aF (hX7.below mY);have yf:=aF (U1.trans (mY.mono U1.size));clear mY cT hg1 hg2 U1 hX7;exact⟨_,ae4 rfl rfl rfl hR8 Ml hT8,_,rfl,U2.weak (λb hb=>by simp at hb;omega),yf⟩
end
end Go.Proofs.YtjgbkdbkachciaaGreatDoor
