import Derived.Test.YtjgbkdbkachciaaGreatDoorB2
set_option linter.all false
namespace Go.Proofs.YtjgbkdbkachciaaGreatDoor
set_option maxRecDepth 100000
set_option maxHeartbeats 16000000
section
open Go.RowKit Go.Shelf
attribute [local go_sem] Oper.semAt_some
structure Sc where
 free:Bool
 okV:aK->Prop
 rM:aK->Prop
 zD:aK->Nat->Prop
structure Ch (c:Sc) (sb:Nat) (W:World) (vv av fv:Value):Prop where
 v:∃l:List aK,aP (·≠sb) 1 dc W vv l/\(c.free=false->∀x∈l,c.okV x)
 a:∃l:List LA,aP (·≠sb) 2 wO W av l/\(c.free=false->∀x∈l,c.rM x.name)
 f:∃l:List LF,aP (·≠sb) 4 (RF (·≠sb)) W fv l/\(c.free=false->∀x∈l,c.zD x.name x.params.length)
 any:c.free=true->(∀x,fH x->c.okV x)/\(∀x,fH x->c.rM x)/\∀x n,fH x->n<=6->c.zD x n
theorem Ch.kept {c:Sc} {sb:Nat} {W W':World} {vv av fv:Value} {row:Option Nat} (h:Ch c sb W vv av fv) (hg:W.grownBy W' row) (hr:∀r,row=some r->r=sb):Ch c sb W' vv av fv:=by
 have hB:∀r,row=some r-> ¬(r≠sb):=λr e=>by simp [hr r e]
 obtain⟨⟨l1,h1,k1⟩,⟨l2,h2,k2⟩,⟨l3,h3,k3⟩,k4⟩:=h;exact⟨⟨l1,h1.grown hg hB i20,k1⟩,⟨l2,h2.grown hg hB i20,k2⟩,⟨l3,h3.grown hg hB (λ_ _ h=>h.grown hg hB),k3⟩,k4⟩
theorem SG.row {sb:Nat} {W W':World} (h:SG sb W W') {g:Nat} {t:TypeId} {cs:List Value} (hr:Row W g t cs) (hne:g≠sb):Row W' g t cs:=hr.kept h.1 (λe=>hne (Option.some.inj e))
theorem Src.own {sb:Nat} {W W':World} (h:Src sb W) (hb:Below W W W'):Src sb W':=h.kept (bX hb none) aJ
theorem SG.start {sb:Nat} {w w1:World} (h:Src sb w) (hb:Below w w w1):SG sb w w1:=⟨bX hb _,h.own hb⟩
theorem SG.post {sb:Nat} {w w1 w2:World} (h:SG sb w w1) {row:Option Nat} (hg:w1.grownBy w2 row) (hs:sb<w.heap.size) (hr:∀r,row=some r->w.heap.size<=r):SG sb w w2:=by
 refine⟨⟨hg.os.trans h.1.os,hg.tape.trans h.1.tape,hg.output.trans h.1.output,az h.1.size hg.size,λi hi hne=> ?_⟩,h.2.kept hg (λr e=>by have:=hr r e;omega)⟩;exact(hg.block i (aB hi h.1.size) (λe=>by have:=hr i e.symm;omega)).trans (h.1.block i hi hne)
theorem SG.size {sb:Nat} {w w1:World} (h:SG sb w w1):w.heap.size<=w1.heap.size:=h.1.size
theorem j4 {r:Int} (h:0<=r):∃k:Nat,r=k:=⟨r.toNat,aG⟩
theorem aiz {B:Nat->Prop} {w:World} {a:Option Addr} {c n:Nat} {l:List aK} (h:aP B 1 dc w (.slice a n c) l) {i:Nat} (hi:i<l.length):∃b o x,a=some ⟨b,o,none⟩/\w.cell? ⟨b,o+i,none⟩=some (S x)/\x∈l:=by
 obtain⟨b,o,C,h1,_,hC,hx⟩:=h.at hi;have e1:=hC 0 aG;rw[show C 0=S l[i]from hx]at e1;simp only[Nat.mul_one,aA]at e1;exact⟨b,o,_,h1,e1,ak _⟩
theorem X7 (free loop:Bool) (sb:Nat) (W:World) (vv av fv lv:Value) (l:List aK) (hs:Src sb W) (hl:aP (·≠sb) 1 dc W lv l) (hf:free=true\/l≠ []):
  Calls Tryz.prog 45 #[.agg #[vv,av,fv, .bool free, .bool loop], .pointer (some (sb,0)),lv] W λe w'=>(∃x:aK,e= .returned (S x)/\(free=false->x∈l)/\(free=true->fH x))/\SG sb W w':=by
 obtain⟨a0,c0,rfl,Ge, -⟩:=id hl;have⟨N,hN⟩:=xq l.length;rw[<-hN]at hl Ge|-;have⟨w1,hw1⟩:=xq (W.alloc (.cells #[vv,av,fv, .bool free, .bool loop] 64));have dO:=hw1.symm;have hb1:=gI hw1;have hr1:=dZ hw1;have c3:=hr1.k3;have fI:=aF (SG.start hs hb1);have pz:=aF (show aP (·≠sb) 1 dc w1 (.slice a0 N c0) l from hl.grown (bX hb1 none) aJ i20);have HN:=aF hN;have HF:=aF hf;clear hs hl hN hf hw1 hb1 hr1;cases free with
 |true=>
  go_enter Tryz.func45,Tryz.ntmps45;go_wp2_with (first|(go_at_call 25;refine(gY sb 312 w1 fI.2 aG aG).mono ?_;rintro e w2⟨⟨r,rfl,b_,hr1⟩,hs2⟩;have cu:=aF (fI.out.trans hs2);have HR:=aF (And.intro b_ hr1);clear hs2 b_ hr1)|(go_at_call 47;refine(Q5 r HR.1 HR.2 w2).mono ?_;rintro e w3⟨⟨x,rfl,cJ⟩,hb3⟩;have cv:=aF cJ;clear cJ;have gB:=aF (cu.out.trans (SG.start cu.2 hb3));clear hb3))
  go_ret;exact⟨⟨x,rfl,s8,λ_=>cv.out⟩,gB⟩
 |false=>
  have hl0:l≠ []:=HF.out.resolve_left aH;have IZ:0<N:=by rw[HN.out];exact List.length_pos_iff.2 hl0
  have hNz: ¬(N:Int)=0:=aG;have hNn: ¬N=0:=aG;clear hl0;go_enter Tryz.func45,Tryz.ntmps45;go_wp2_with (go_at_call 25;refine(gY sb N w1 fI.2 aG aG).mono ?_;rintro e w2⟨⟨r,rfl,b_,hr1⟩,hs2⟩;have cu:=aF (fI.out.trans hs2);have yj:=aF (pz.grown hs2.1 (λr e=>by cases e;simp) i20);clear hs2;obtain⟨k,rfl⟩:=j4 b_;have CY:k<N:=aG;obtain⟨b,o,x,rfl,e1,hmem⟩:=aiz yj.out (show k<l.length by rw[<-HN.out];exact CY);have HM:=aF hmem;clear hmem c3)
  go_ret;exact⟨⟨x,rfl,λ_=>HM.out,s8⟩,cu⟩
theorem aiA {B:Nat->Prop} {w:World} {a:Option Addr} {c n:Nat} {l:List LA} (h:aP B 2 wO w (.slice a n c) l) {i:Nat} (hi:i<l.length):∃b o x,a=some ⟨b,o,none⟩/\w.cell? ⟨b,o+i*2,none⟩=some (S x.name)/\w.cell? ⟨b,o+i*2+1,none⟩=some (I x.size)/\x∈l:=by
 obtain⟨b,o,C,h1,_,hC,hx⟩:=h.at hi;have e0:=hC 0 aG;have e1:=hC 1 aG;rw[show C 0=S l[i].name from hx.1]at e0;rw[show C 1=I l[i].size from hx.2]at e1;simp only[aA]at e0;exact⟨b,o,_,h1,e0,e1,ak _⟩
theorem QH (free loop:Bool) (sb:Nat) (W:World) (vv av fv:Value) (l:List LA) (hs:Src sb W) (hl:aP (·≠sb) 2 wO W av l) (hf:free=true\/l≠ []):
  Calls Tryz.prog 29 #[.agg #[vv,av,fv, .bool free, .bool loop], .pointer (some (sb,0))] W λe w'=>(∃(x:aK) (n:Int),e= .returned (.agg #[S x,I n])/\(free=false->∃a∈l,a.name=x)/\(free=true->fH x))/\SG sb W w':=by
 obtain⟨a0,c0,rfl,Ge, -⟩:=id hl;have⟨N,hN⟩:=xq l.length;rw[<-hN]at hl Ge|-;obtain⟨w1,hw1⟩:∃w1,w1=(W.alloc (.cells #[vv, .slice a0 N c0,fv, .bool free, .bool loop] 64)).alloc (.cells #[.string ⟨#[]⟩, .int .i64 0] 68):=⟨_,rfl⟩;have dO:=hw1.symm;have hb1:Below W W w1:=by rw[hw1];exact nR _ _ _
 have hr1:Row w1 W 64 [vv, .slice a0 N c0,fv, .bool free, .bool loop]:=by rw[hw1];exact dV _ _ hn0
 have cB:=aF (show Row w1 (W,1) 68 [S [],I 0] by rw[hw1];exact jF aH);have c1:=hr1.k1;have c3:=hr1.k3;have hsl:=hs.lt;have fI:=aF (SG.start hs hb1);have bC:=aF hr1;have pz:=aF (show aP (·≠sb) 2 wO w1 (.slice a0 N c0) l from hl.grown (bX hb1 none) aJ i20);have HN:=aF hN;have HF:=aF hf;clear hs hl hN hf hw1 hb1 hr1;have HD:Hid (∀(wx:World) (x:aK) (n:Int),SG sb W wx->SG sb W (wx.setRow (W,1) #[S x,I n])):=λwx x n h=>h.post bJ hsl bh;cases free with
 |true=>
  go_enter Tryz.func29,Tryz.ntmps29;go_wp2_with (first|(refine sr 68 (.tmp 4) (.tmp 19) (W.heap.size+1) #[S [],I 0] bU.out ?_)|(go_at_call 47;refine(Q5 r HR.1 HR.2 w2).mono ?_;rintro e w3⟨⟨x,rfl,cJ⟩,hb3⟩;have cv:=aF cJ;clear cJ;have gB:=aF (cu.out.trans (SG.start cu.2 hb3));have bL:=bA cB hb3;clear hb3)|(go_at_call 25;first|(refine(gY sb 1000 w3 gB.2 aG aG).mono ?_;rintro e w4⟨⟨n,rfl,hn0,gV⟩,hs4⟩;have o7:=aF (gB.out.trans hs4);have bU:=aF (hs4.row bL aG);clear hs4)|(refine(gY sb 312 w1 fI.2 aG aG).mono ?_;rintro e w2⟨⟨r,rfl,b_,hr1⟩,hs2⟩;have cu:=aF (fI.out.trans hs2);replace cB:=aF (hs2.row cB aG);have HR:=aF (And.intro b_ hr1);clear hs2 b_ hr1)))
  refine bodyPost_ret (results_cell_row rfl _ _ (W.heap.size+1) 68 _ (0,0) _ rfl (setRow_heap _ _ _ _ _ _ bU.out) Tryz.underlying68 rfl aL) rfl ?_;exact⟨⟨x,_,rfl,s8,λ_=>cv.out⟩,HD _ _ _ o7⟩
 |false=>
  have hl0:l≠ []:=HF.out.resolve_left aH;have IZ:0<N:=by rw[HN.out];exact List.length_pos_iff.2 hl0
  have hNz: ¬(N:Int)=0:=aG;have hNn: ¬N=0:=aG;clear hl0;go_enter Tryz.func29,Tryz.ntmps29;go_upto_region 3 with(fail)
  refine cC (λX=>X.cell? (W,1)=some (.slice a0 N c0)) [0,0,0,0,0,0,1,0,1,2] (λwd hh=>aO bC.out hh 1) λwd hh hgd hS=> ?_;have kG:=aF (fI.out.trans ⟨⟨hgd.os,hgd.tape,hgd.output,hgd.size,λi hi _=>hgd.block i hi aH⟩,fI.2.kept hgd aJ⟩);have Ei:=aF (pz.grown hgd aJ i20);have aj9:=bI bC hgd;have aj_:=bI cB hgd;clear hh hgd c1 c3;refine nE ?_;go_wp2_with (go_at_call 25;refine(gY sb N wd kG.2 aG aG).mono ?_;rintro e w2⟨⟨r,rfl,b_,hr1⟩,hs2⟩;have cu:=aF (kG.out.trans hs2);have yj:=aF (Ei.grown hs2.1 (λr e=>by cases e;simp) i20);have gp:=aF (hs2.row aj9 aG);have iU:=aF (hs2.row aj_ aG);clear hs2)
  have c1:=gp.k1;refine bw c1 λhS=> ?_;obtain⟨k,rfl⟩:=j4 b_;have CY:k<N:=aG;obtain⟨b,o,x,rfl,e0,e1,hmem⟩:=aiA yj.out (show k<l.length by rw[<-HN.out];exact CY);have HM:=aF hmem;clear hmem;refine wV ?_;refine h_ ?_;go_wp2;refine bw c1 λhS=> ?_
  refine nu ?_;clear hS c1 e0 e1;refine sJ 68 (.tmp 4) (.tmp 28) rfl ?_;refine wpList_store_row rfl 68 (.tmp 4) (.tmp 28) rfl (W.heap.size+1) _ rfl rfl 68 #[S [],I 0] iU.out aL fV sv0 ?_;go_wp2;refine iG (kK ?_);go_wp2;refine bodyPost_ret (results_cell_row rfl _ _ (W.heap.size+1) 68 _ (0,0) _ rfl (setRow_heap _ _ _ _ _ _ iU.out) Tryz.underlying68 rfl aL) rfl ?_;exact⟨⟨x.name,x.size,rfl,λ_=>⟨x,HM,rfl⟩,s8⟩,HD _ _ _ cu⟩
def iP (c:Sc):Nat->LE->Prop
 |0,_=>False
 |d+1,e=>((e.kind=1/\0<=e.n/\e.op=0/\e.name= []/\e.args.length=0)\/(e.kind=2/\c.okV e.name/\e.op=0/\e.n=0/\e.args.length=0)\/
   (e.kind=3/\(e.op=17\/e.op=18\/e.op=19)/\e.n=0/\e.name= []/\e.args.length=1)\/(e.kind=4/\(1<=e.op/\e.op<=16)/\e.n=0/\e.name= []/\e.args.length=2)\/
   (e.kind=5/\c.zD e.name e.args.length/\e.op=0/\e.n=0)\/(e.kind=6/\c.rM e.name/\e.op=0/\e.n=0/\e.args.length=1)\/(e.kind=7/\e.op=0/\e.n=0/\e.name= []/\e.args.length=0))/\
   ∀x∈e.args,iP c d x
def Bn (c:Sc) (d:Nat) (sb:Nat) (W:World) (en:Ending) (w':World):Prop:=∃(e:LE) (av:Value),en= .returned (eV e av)/\iP c d e/\EX (W.heap.size<=·) w' av e/\SG sb W w'
def Pv (c:Sc) (d:Nat):Prop:=∀(sb:Nat) (W:World) (vv av fv:Value) (loop:Bool),Ch c sb W vv av fv->Src sb W->Calls Tryz.prog 28 #[.agg #[vv,av,fv, .bool c.free, .bool loop], .pointer (some ⟨sb,0,none⟩),I d] W (Bn c d sb W)
theorem RJ {B B':Nat->Prop} {w:World} {a:Option Addr} {c n:Nat} {l:List LF} (h:aP B 4 (RF B') w (.slice a n c) l) {i:Nat} (hi:i<l.length):∃b o x pa pc la ln lc ba bn bc,a=some ⟨b,o,none⟩/\w.cell? ⟨b,o+i*4,none⟩=some (S x.name)/\w.cell? ⟨b,o+i*4+1,none⟩=some (.slice pa x.params.length pc)/\w.cell? ⟨b,o+i*4+2,none⟩=some (.slice la ln lc)/\w.cell? ⟨b,o+i*4+3,none⟩=some (.slice ba bn bc)/\x∈l/\x.params.length<=1000000000/\B b:=by
 obtain⟨b,o,C,h1,hb,hC,hx⟩:=h.at hi;have e0:=hC 0 aG;have e1:=hC 1 aG;have e2:=hC 2 aG;have e3:=hC 3 aG;obtain⟨k0,⟨pa,pc,k1,Dt,_⟩,⟨la,lc,k2,_⟩,k3⟩:=hx;obtain⟨ba,bc,k3⟩:=k3.slice;rw[k0]at e0;rw[k1]at e1;rw[k2]at e2;rw[k3]at e3;simp only[aA]at e0;exact⟨b,o,_,pa,pc,_,_,_,_,_,_,h1,e0,e1,e2,e3,ak _,Dt,hb⟩
theorem afP (w:World) (o:Obj) {b:Nat} (h:b<w.heap.size):(w.alloc o).heap[b]? =w.heap[b]? :=Below.heap_alloc w o b h
def OT.f6:OT:= .one 0 0 (.one 0 1 (.one 0 2 (.one 0 3 (.one 0 4 (.one 0 5 (.two 6 9 (.one 0 7 (.one 0 8 (.one 1 9 (.one 2 10 .nil)))) (.one 1 6 (.one 0 7 (.one 0 8 (.one 2 10 .nil))))))))))
theorem Dz {X Y:World} {b o:Nat} (h:X.heap[b]? =Y.heap[b]?):X.cell? (b,o)=Y.cell? (b,o):=by
 simp only[World.cell?,h]
abbrev Uo:Array Value:= #[.string ⟨#[]⟩, .slice none 0 0, .slice none 0 0, .slice none 0 0]
theorem X_ (c:Sc) (d:Nat) (ih:Pv c d) (hd:d<1000) (loop:Bool) (sb:Nat) (W:World) (vv av fv:Value) (hsc:Ch c sb W vv av fv) (hs:Src sb W) (hne:c.free=true\/∃a n k,fv= .slice a n k/\0<n):
  Calls Tryz.prog 46 #[.agg #[vv,av,fv, .bool c.free, .bool loop], .pointer (some (sb,0)),I (d+1:Nat)] W λen w'=>∃(e:LE) (m_:Value),en= .returned (eV e m_)/\(e.kind=5/\c.zD e.name e.args.length/\e.op=0/\e.n=0/\∀x∈e.args,iP c d x)/\EX (W.heap.size<=·) w' m_ e/\SG sb W w':=by
 obtain⟨Q,hQ⟩:∃Q:Ending->World->Prop,Q=λen w'=>∃(e:LE) (m_:Value),en= .returned (eV e m_)/\(e.kind=5/\c.zD e.name e.args.length/\e.op=0/\e.n=0/\∀x∈e.args,iP c d x)/\EX (W.heap.size<=·) w' m_ e/\SG sb W w':=⟨_,rfl⟩;rw[<-hQ];have HQ:=aF hQ;obtain⟨fl,hfl,yo⟩:=hsc.f;obtain⟨fa,fc,rfl,Mm, -⟩:=id hfl;have⟨N,hN⟩:=xq fl.length;rw[<-hN]at hfl Mm hsc hne|-;have⟨fr,gW⟩:=xq c.free;rw[<-gW]at yo|-;obtain⟨w0,hw0⟩:∃w0,w0=(W.alloc (.cells #[vv,av, .slice fa N fc, .bool fr, .bool loop] 64)).alloc (.cells eZ 31):=⟨_,rfl⟩;obtain⟨w1,hw1⟩:∃w1,w1=(w0.alloc (.cells eZ 31)).setRow (W,2) #[.int .i64 5, .int .i64 0, .int .i64 0, .string ⟨#[]⟩, .slice none 0 0]:=⟨_,rfl⟩;have hz0:w0.heap.size=W.heap.size+2:=by rw[hw0];simp
 have hw2:w1=w0.alloc (.cells #[I 5,I 0,I 0,S [], .slice none 0 0] 31):=by rw[hw1,<-hz0];exact World.setRow_alloc_new _ _ _ _
 have dO:=hw1.symm;have hb0:Below W W w0:=by rw[hw0];exact nR _ _ _
 have hb1:Below W W w1:=by rw[hw2];exact hb0.alloc aG _
 have hr1:Row w1 W 64 [vv,av, .slice fa N fc, .bool fr, .bool loop]:=by rw[hw2,hw0];exact dV _ _ (ho0 hn0)
 have hr2:Row w1 (W,1) 31 [I 0,I 0,I 0,S [], .slice none 0 0]:=by rw[hw2,hw0];exact dV _ _ ha0
 have hr3:Row w1 (W.heap.size+1+1) 31 [I 5,I 0,I 0,S [], .slice none 0 0]:=by rw[hw2];exact jF aG
 have hz1:w1.heap.size=W.heap.size+3:=by rw[hw2];simp;omega
 rw[hw0]at dO;clear hw2 hb0 hw0;have hsl:=hs.lt;have fI:=aF (SG.start hs hb1);have bC:=aF hr1;have cB:=aF hr2;have bL:=aF hr3;have MC:=aF (show aP (·≠sb) 4 (RF (·≠sb)) w1 (.slice fa N fc) fl from hfl.grown (bX hb1 none) aJ (λ_ _ h=>h.grown (bX hb1 none) aJ));have nM:=aF hsc;have alP:=aF (hsc.kept (bX hb1 none) aJ);have HN:=aF hN;have HFK:=aF yo;have ki:=aF gW;have wZ:=aF ih;have tR:=aF hne;clear hne hsc hs hfl hN gW yo ih hb1 hr1 hr2 hr3 hw1 hQ;go_enter Tryz.func46,Tryz.ntmps46;go_upto_region 3 with(refine sr 31 (.tmp 7) (.tmp 11) (W.heap.size+2) #[.int .i64 0, .int .i64 0, .int .i64 0, .string ⟨#[]⟩, .slice none 0 0] ha0 ?_)
 rename_i K1 Gh K2 hK2;clear dO;have Z_:∀(nm:aK) (n:Nat) {x9 jq ja je gX jf xy xD lB lC lD mj n_ og oh qT qU qV qW qX rX rY rZ r9 si sj su sw tA tB:Value} (wz:World),n<=1000000000->c.zD nm n->SG sb W wz->Row wz W 64 [vv,av, .slice fa N fc, .bool fr, .bool loop]->Row wz (W,1) 31 [I 0,I 0,I 0,S [], .slice none 0 0]->Row wz (W.heap.size+1+1) 31 [I 5,I 0,I 0,S nm, .slice none 0 0]->
   K1 {tmps:= #[.agg #[vv,av, .slice fa N fc, .bool fr, .bool loop], .pointer (some (sb,0)),I ((d:Int)+1), .pointer (some (W,0)),undef,undef, .pointer (some (W,1,0)), .pointer (some (W.heap.size+1+1,0)),I n,x9,undef, .agg #[.int .i64 5, .int .i64 0, .int .i64 0, .string ⟨#[]⟩, .slice none 0 0],jq,ja,je,gX,jf,xy,xD,lB,lC,lD,mj,n_,og,oh,qT,qU,qV,qW,qX,rX,rY,rZ,r9,si,sj,su,sw,tA,tB,undef,undef,undef,undef,undef,undef,undef,undef,undef,undef,undef,undef,undef,undef,undef,undef],defers:= []} wz:=by
  intro nm n;(iterate 30 intro);intro wz hn hok d_ q1 q2 q3;refine Gh _ _ ?_;clear Gh hK2 K1 K2;have mK:=aF d_;have gp:=aF q1;have iU:=aF q2;have rJ:=aF q3;have qP:=aF hok;clear d_ q1 q2 q3 hok hz1;go_wp2;go_loopg [10] n (λgh i wr=>∃k:Nat,gh+k=n/\i=I k/\Hid (∃(done:List EA) (v:Value),done.length=k/\SG sb W wr/\Row wr W 64 [vv,av, .slice fa N fc, .bool fr, .bool loop]/\Row wr (W,1) 31 [I 0,I 0,I 0,S [], .slice none 0 0]/\Row wr (W.heap.size+1+1) 31 [I 5,I 0,I 0,S nm,v]/\oq wr (W,3) v done/\∀p∈done,iP c d p.e))
  case atStart=>exact⟨0,aG,rfl,aF ⟨[],_,rfl,mK,gp,iU,rJ,oq.nil _ _,aJ⟩⟩
  case round=>
   obtain⟨k,hg,rfl,HH⟩:=hrel;obtain⟨wo,rfl⟩:=xq wr;obtain⟨done,v,yw,d_,r1,r2,r3,hes,hdr⟩:=HH.out;obtain⟨va,vc,rfl⟩:=hes.1.slice;have hsz:=d_.size;have p1:=r3.k4;have b0:=r1.k0;have b1:=r1.k1;have b2:=r1.k2;have b3:=r1.k3;have b4:=r1.k4;rw[yw]at p1 hes;have BC:=aF d_;have fk:=aF r1;have kX:=aF r2;have eU:=aF r3;have rB:=aF hes;have iO:=aF hdr;have sD:=aF yw;clear HH d_ r1 r2 r3 hes hdr yw;by_cases hlt:k<n
   ·have bT:(k:Int)<(n:Int):=aG;clear p1 b0 b1 b2 b3 b4;go_upto_region 12 with(fail)
    refine cC (λX=>X.cell? (W,0)=some vv/\X.cell? (W,1)=some av/\X.cell? (W,2)=some (.slice fa N fc)/\X.cell? (W,3)=some (.bool fr)/\X.cell? (W,4)=some (.bool loop)/\X.cell? (W.heap.size+1+1,4)=some (.slice va k vc)) [0,0,0,0,0,0,1,1,1,0,2] ?hS ?_
    case hS=>intro wd hh;exact⟨aO fk.out hh 0,aO fk.out hh 1,aO fk.out hh 2,aO fk.out hh 3,aO fk.out hh 4,(aO eU.out hh 4).trans (by rw[<-sD.out];rfl)⟩
    intro wd hh hgd hS;have kG:=aF (BC.post hgd hsl aJ);have vE:=bI fk hgd;have Gi:=bI kX hgd;have Ni:=aF (show Row wd (W.heap.size+1+1) 31 [I 5,I 0,I 0,S nm, .slice va k vc] by rw[<-sD.out];exact eU.kept hgd aH);have BH:=aF (rB.grown hgd aJ);have hzd:W.heap.size+3<=wd.heap.size:=by have:=hgd.size;have:=Ni.lt;omega
    clear hh hgd BC fk kX eU rB;have HC:=aF (show Calls Tryz.prog 28 #[.agg #[vv,av, .slice fa N fc, .bool fr, .bool loop], .pointer (some (sb,0)),I d] wd (Bn c d sb wd) by rw[ki.out];exact wZ sb wd vv av (.slice fa N fc) loop (nM.kept kG.1 (λr e=>by cases e;rfl)) kG.2);have hwk:IntKind.i64.wrap (d:Int)=d:=IntWalk.i64_in _ aG;refine nE ?_;go_wp2_with (go_at_call 28;refine HC.mono ?_;rintro e' w2⟨x,xv,rfl,qo,kQ,iH⟩;obtain⟨xa,xc,rfl⟩:=kQ.slice;have uh:=aF qo;have mB:=aF kQ;have oW:=aF iH;have abT:=aF (iH.row vE aG);have Uq:=aF (iH.row Gi aG);have abU:=aF (iH.row Ni aG);clear qo kQ iH)
    have jL:∀X:World,Row X W 64 [vv,av, .slice fa N fc, .bool fr, .bool loop]->Row X (W.heap.size+1+1) 31 [I 5,I 0,I 0,S nm, .slice va k vc]->(X.cell? (W,0)=some vv/\X.cell? (W,1)=some av/\X.cell? (W,2)=some (.slice fa N fc)/\X.cell? (W,3)=some (.bool fr)/\X.cell? (W,4)=some (.bool loop)/\X.cell? (W.heap.size+1+1,4)=some (.slice va k vc)):=
     λX h h'=>⟨h.cell 0,h.cell 1,h.cell 2,h.cell 3,h.cell 4,h'.cell 4⟩
    have cu:=aF jL;clear jL;refine bw (cu w2 abT abU) λhS=> ?_;clear hS;have hz2:wd.heap.size<=w2.heap.size:=oW.size;refine h_ ?_;go_wp2;have⟨w3,hw3⟩:=xq (w2.alloc (.cells #[I x.kind,I x.op,I x.n,S x.name, .slice xa x.args.length xc] 31));have jm:=dZ hw3
    have Sm:Row w3 W 64 [vv,av, .slice fa N fc, .bool fr, .bool loop]:=by rw[hw3];exact dV _ _ abT.out
    have abV:Row w3 (W.heap.size+1+1) 31 [I 5,I 0,I 0,S nm, .slice va k vc]:=by rw[hw3];exact dV _ _ abU.out
    have iM:oq w3 (W,3) (.slice va k vc) done:=by rw[hw3];exact(BH.grown oW.1 bh).grown iD aJ
    have hz3:w2.heap.size<w3.heap.size:=by rw[hw3];simp
    have Ds:=aF hw3;have AH:=aF jm;have iz:=aF iM;rw[<-hw3];have abW:=aF Sm;have abX:=aF abV;have lV:done.length<=1000000000:=by rw[sD.out];omega
    clear hw3 jm Sm abV iM;refine bw (cu w3 abW abX) λhS=> ?_;clear hS;refine h_ ?_;have aqc:=aF (sD.out.symm);have Ur:=aF (show a_ 5 31 kB w3 (W,3) (.slice va k vc) done from iz.1);go_wp2_with (at_builtin;refine lX DD rfl _ _ rfl v_ E6 (W.heap.size+3) (.slice va k vc) done rfl Ur.out w2.heap.size ⟨x,xa,xc⟩ rfl (λj hj=>(cell_of_block AH.out j).trans (by simp [kB,EA.av])) lV aG aG ?_;intro g' cap w6 dY bG fy lZ;have gK:=aF dY;have di:=aF bG;have gN:=aF fy;clear dY bG fy)
    have gM:∀r,(Value.slice va k vc).ownBlock=some r->W.heap.size+3<=r:=λr e=>(cO iz.1 r e).1;have hne:∀g,g<W.heap.size+3->some g≠(Value.slice va k vc).ownBlock:=λg hg e=>by have:=gM g e.symm;omega
    have abY:=aF (abW.kept di (hne _ aG));have alQ:=aF (show Row w6 (W,1) 31 [I 0,I 0,I 0,S [], .slice none 0 0]from(show Row w3 _ 31 _ by rw[Ds.out];exact dV _ _ Uq.out).kept di.out (hne _ aG));have O9:=aF (abX.kept di (hne _ aG));have uj:=aF (show SG sb W w6 from((kG.out.trans oW.out).post (show w2.grownBy w3 none by rw[Ds.out];exact cE _ _ _) hsl aJ).post di hsl (λr e=>by have:=gM r e;omega));have uv:=aF (show oq w6 (W,3) (.slice (some (g',0)) (done.length+1) cap) (done++ [⟨x,xa,xc⟩])from oq.app BH oW.1 bh mB hzd gK (by rw[<-Ds.out];exact di.out) rfl (by rw[<-Ds.out];exact gN.out));refine bw (cu w6 abY O9) λhS=> ?_;refine wV ?_;clear hS;have f4:=O9.frozen 4;have c4:=O9.k4;refine nu ?_;go_wp2;refine iG (kK ?_);have⟨w7,cT⟩:=xq (w6.setCell (W.heap.size+1+1,4) (.slice (some (g',0)) (done.length+1) cap));have M7:=aF (show w6.grownBy w7 (some (W.heap.size+1+1)) by rw[cT];exact bO _ _ _ _);have xm:=aF (show Row w7 (W.heap.size+1+1) 31 [I 5,I 0,I 0,S nm, .slice (some (g',0)) (done.length+1) cap] by rw[cT];exact O9.set 4 _);rw[<-cT];clear cT f4 c4;go_wp2;go_roundg (n - (k+1))
    case measure=>omega
    case rel=>
     refine⟨k+1,aG,by go_num,aF ⟨done++ [⟨x,xa,xc⟩],_,by simp [sD.out],uj.post M7 hsl bh,abY.kept M7 ct,alQ.kept M7 aH,xm,uv.grown M7 bh,λp hp=> ?_⟩⟩;rcases List.mem_append.1 hp with hp|hp
     ·exact iO p hp
     ·obtain rfl:=ai hp;exact uh.out
   ·have bT: ¬(k:Int)<(n:Int):=aG;have hkn:k=n:=aG;have c0:=eU.k0;have c1:=eU.k1;have c2:=eU.k2;have c3:=eU.k3;have c4:=eU.k4;have lV:done.length<=1000000000:=by rw[sD.out];omega
    have GX:=aF hkn;clear p1 b0 b1 b2 b3 b4 hkn;go_wp2_with (refine sr 31 (.tmp 6) (.tmp 56) (W.heap.size+1) eZ kX.out ?_)
    refine bodyPost_ret (results_cell_row rfl _ _ (W.heap.size+1) 31 _ (0,0) _ rfl (setRow_heap _ _ _ _ _ _ kX.out) Tryz.underlying31 rfl aL) rfl ?_;rw[HQ.out];refine⟨.mk 5 0 0 nm (done.map EA.e),_,rfl,⟨rfl, ?_,rfl,rfl,λx hx=> ?_⟩, ?_,BC.post bJ hsl bh⟩
    ·show c.zD nm (done.map EA.e).length;rw[aC,sD.out,GX.out];exact qP.out
    ·obtain⟨p,hp,rfl⟩:=List.mem_map.1 (show x∈done.map EA.e from hx);exact iO p hp
    ·have h1:=(rB.grown (bJ (g:=W.heap.size+1) (cs:= #[I 5,I 0,I 0,S nm, .slice va done.length vc])) bh).read (e:= .mk 5 0 0 nm (done.map EA.e)) (by rw[sD.out];omega) rfl;rw[show(k:Nat)=done.length from sD.out.symm]at h1;exact EX.weak (B:=(W.heap.size+3<=·)) h1 λb hb=>(by omega:W.heap.size<=b)
 have Ev:=aF @Z_;clear Gh Z_;have b2:=bC.k2;have b3:=bC.k3;cases fr with
 |true=>
  go_upto_region 5 with(first|(go_at_call 25;refine(gY sb 312 w1 fI.2 aG aG).mono ?_;rintro e w2⟨⟨r,rfl,b_,hr1⟩,hs2⟩;have cu:=aF (fI.out.trans hs2);have pX:=aF (And.intro b_ hr1);have mJ:=aF (hs2.row bC aG);have fe:=aF (hs2.row cB aG);have iF:=aF (hs2.row bL aG);clear hs2 b_ hr1)|(go_at_call 47;refine(Q5 r pX.1 pX.2 w2).mono ?_;rintro e w3⟨⟨x,rfl,cJ⟩,hb3⟩;have cv:=aF cJ;clear cJ;have gB:=aF (cu.out.trans (SG.start cu.2 hb3));have jW:=bA mJ hb3;have mZ:=bA fe hb3;have Ww:=bA iF hb3;have c3:=Ww.k3;have f3:=Ww.frozen 3;clear hb3))
  have⟨w4,hw4⟩:=xq (w3.setCell (W.heap.size+1+1,3) (S x));have hg4:w3.grownBy w4 (some (W.heap.size+1+1)):=by rw[hw4];exact bO _ _ _ _
  have hv3:Row w4 (W.heap.size+1+1) 31 [I 5,I 0,I 0,S x, .slice none 0 0]:=by rw[hw4];exact Ww.set 3 _
  rw[<-hw4];have Wx:=aF hv3;have xg:=aF (jW.kept hg4 ct);have ko:=bI mZ hg4;have o7:=aF (gB.post hg4 hsl bh);have hok:=(alP.any ki.out.symm).2.2;have qP:=aF hok;clear hw4 hg4 hv3 c3 f3 b2 b3 hok;go_wp2_with (go_at_call 25;refine(gY sb 7 w4 o7.2 aG aG).mono ?_;rintro e w5⟨⟨n,rfl,hn0,gV⟩,hs5⟩;obtain⟨n,rfl⟩:=j4 hn0;have ur:=aF hs5;clear hs5)
  exact Ev x n w5 aG (qP.out x n cv aG) (o7.out.trans ur.out) (ur.row xg aG) (ur.row ko aG) (ur.row Wx aG)
 |false=>
  have abZ:=HFK rfl;have IZ:0<N:=by
   rcases tR.out with h|⟨a,n,k,e,h⟩
   ·rw[<-ki.out]at h;cases h
   ·cases e;exact h
  have hNz: ¬(N:Int)=0:=aG;have hNn: ¬N=0:=aG;obtain⟨b,o,f0,pa0,pc0,la0,ln0,lc0,jI,bu,bc0,rfl,hb0, -, -, -, -, -,hbs⟩:=RJ MC.out (show 0<fl.length by rw[<-HN.out];exact IZ);have qw:=aF abZ;have⟨ob,gM⟩:=xq (w1.heap[b]?);have mE:=aF gM;clear gM;have hblt:b<w1.heap.size:=World.block_lt_of_cell? w1 _ hb0;clear abZ hb0;go_upto_region 6 with(fail)
  rename_i K3 hK3;have hrest:∀(g:Nat) (f:LF) (pa:Option Addr) (pc:Nat) (v2 v3:Value) (y12 y13 y14 y15 y16 y17 y18 y19 y20 y21 y22 y23 y24 y25 y26 y27 y28 y29 y30 y31 y32 y33 y34:Value) (wz:World),f.params.length<=1000000000->c.zD f.name f.params.length->W.heap.size+3<=g->Row wz g 52 [S f.name, .slice pa f.params.length pc,v2,v3]->SG sb W wz->Row wz W 64 [vv,av, .slice (some (b,o)) N fc, .bool false, .bool loop]->Row wz (W,1) 31 [I 0,I 0,I 0,S [], .slice none 0 0]->Row wz (W.heap.size+1+1) 31 [I 5,I 0,I 0,S [], .slice none 0 0]->
    K3 {tmps:= #[.agg #[vv,av, .slice (some (b,o)) N fc, .bool false, .bool loop], .pointer (some (sb,0)),I ((d:Int)+1), .pointer (some (W,0)),undef,undef, .pointer (some (W,1,0)), .pointer (some (W.heap.size+1+1,0)),I 0, .pointer (some (g,0)),undef, .agg #[.int .i64 5, .int .i64 0, .int .i64 0, .string ⟨#[]⟩, .slice none 0 0],y12,y13,y14,y15,y16,y17,y18,y19,y20,y21,y22,y23,y24,y25,y26,y27,y28,y29,y30,y31,y32,y33,y34,undef,undef,undef,undef,undef,undef,undef,undef,undef,undef,undef,undef,undef,undef,undef,undef,undef,undef,undef,undef,undef,undef],defers:= []} wz:=by
   intro g f pa pc v2 v3 y12 y13 y14 y15 y16 y17 y18 y19 y20 y21 y22 y23 y24 y25 y26 y27 y28 y29 y30 y31 y32 y33 y34 wz IJ hok hgg hrg d_ q1 q2 q3;have⟨nm,cJ⟩:=xq f.name;have⟨pn,jx⟩:=xq f.params.length;rw[<-cJ,<-jx]at hok hrg;rw[<-jx]at IJ;clear cJ jx;refine hK3 _ _ ?_;clear hK3 K3 b2 b3;have c0:=hrg.k0;have c1:=hrg.k1;have c3:=q3.k3;have f3:=q3.frozen 3;have Br:=aF hrg;have mK:=aF d_;have gp:=aF q1;have iU:=aF q2;have rJ:=aF q3;have qP:=aF hok;clear hrg d_ q1 q2 q3 hok;go_upto_region 8 with(fail)
   have⟨w4,hw4⟩:=xq (wz.setCell (W.heap.size+1+1,3) (S nm));have hg4:wz.grownBy w4 (some (W.heap.size+1+1)):=by rw[hw4];exact bO _ _ _ _
   have hv3:Row w4 (W.heap.size+1+1) 31 [I 5,I 0,I 0,S nm, .slice none 0 0]:=by rw[hw4];exact rJ.set 3 _
   rw[<-hw4];have Wx:=aF hv3;have xg:=aF (gp.kept hg4 ct);have ko:=bI iU hg4;have HVG:=aF (Br.kept hg4 ct);have o7:=aF (mK.post hg4 hsl bh);clear hw4 hg4 hv3 c0 c1 c3 f3;have c1:=HVG.k1;go_wp2;exact Ev nm pn w4 IJ qP o7 xg ko Wx
  refine EM aL (λX=>X.cell? (W,2)=some (.slice (some (b,o)) N fc)/\X.heap[b]? =ob) OT.f6 aL ?hS6 ?_
  case hS6=>intro wd hh;exact⟨aO bC.out hh 2,by rw[hh];exact mE.out.symm⟩
  intro wd hh hgd hS;have kG:=aF (fI.post hgd hsl aJ);have vE:=bI bC hgd;have Gi:=bI cB hgd;have Ni:=bI bL hgd;have ng:b<wd.heap.size:=aB hblt hgd.size;have hzd:W.heap.size+3<=wd.heap.size:=by have:=hgd.size;omega
  clear hh hgd b2 b3 hK3 hz1 hz0;have qQ:=aF (λ(X:World) (h:Src sb X)=>gY sb N X h aG aG);refine iX ?_;refine uR rfl rfl ?_ ?_
  ·go_wp2_with (go_at_call 25;refine(qQ wd kG.2).mono ?_;rintro e w2⟨⟨r,rfl,b_,hr1⟩,hs2⟩;have cu:=aF hs2;clear hs2)
   have jL:w2.cell? (W,2)=some (.slice (some (b,o)) N fc)/\w2.heap[b]? =ob:=⟨(cu.row vE aG).cell 2,(cu.1.block b ng (λe=>hbs (Option.some.inj e))).trans hS.2⟩;clear hS;refine dB jL λ_=> ?_;obtain⟨k,rfl⟩:=j4 b_;have CY:k<N:=aG;obtain⟨b',o',f,pa,pc,la,ln,lc,ba,bn,bc,jz,e0,e1,e2,e3,xu,IJ, -⟩:=RJ MC.out (show k<fl.length by rw[<-HN.out];exact CY);obtain⟨rfl,rfl⟩:b=b'/\o=o':=by simpa using jz
   have HE:=aF (And.intro e0 (And.intro e1 (And.intro e2 e3)));have jb:=aF (qw f xu);clear jz e0 e1 e2 e3 xu;refine iX ?_;refine QG (v:= .agg #[S f.name, .slice pa f.params.length pc, .slice la ln lc, .slice ba bn bc]) rfl fV ?_ (by assumption) (λ_ _ _ h=>h) ?_
   ·intro wS hSw;have t0:wS.cell? ⟨b,o+k*4,none⟩=some (S f.name):=(Dz (hSw.2.trans mE.out)).trans HE.1;have t1:wS.cell? ⟨b,o+k*4+1,none⟩=some (.slice pa f.params.length pc):=(Dz (hSw.2.trans mE.out)).trans HE.2.1;have t2:wS.cell? ⟨b,o+k*4+2,none⟩=some (.slice la ln lc):=(Dz (hSw.2.trans mE.out)).trans HE.2.2.1;have t3:wS.cell? ⟨b,o+k*4+3,none⟩=some (.slice ba bn bc):=(Dz (hSw.2.trans mE.out)).trans HE.2.2.2;clear hSw;go_simp
   simp only[Act.put,List.setIfInBounds_toArray,List.set_cons_zero,List.set_cons_succ];refine gQ rfl ?_;go_wp2;refine dB ⟨((cu.row vE aG).kept iD aH).cell 2, ?_⟩ λ_=> ?_
   ·exact(afP _ _ (aB ng cu.size)).trans jL.2
   clear jL;have hz2:=cu.size;refine tY rfl ?_;refine sJ 52 (.tmp 9) (.tmp 34) rfl ?_;refine wpList_store_row rfl 52 (.tmp 9) (.tmp 34) rfl (w2.heap.size) _ rfl rfl 52 Uo hn0 aL fV sv0 ?_;go_wp2;refine iG (pO ?_);refine hrest w2 f pa pc _ _ _ _ _ _ _ _ _ _ _ _ _ _ _ _ _ _ _ _ _ _ _ _ _ _ IJ jb aG (setRow_heap _ _ _ _ _ _ hn0) (((kG.out.trans cu.out).post iD hsl aJ).post bJ hsl bh) ?_ ?_ ?_
   ·exact(show Row _ _ _ _ from dV _ _ (cu.row vE.out aG)).kept bJ ct
   ·exact(show Row _ _ _ _ from dV _ _ (cu.row Gi.out aG)).kept bJ ct
   ·exact(show Row _ _ _ _ from dV _ _ (cu.row Ni.out aG)).kept bJ ct
  ·go_wp2;have⟨wa,iq⟩:=xq (wd.alloc (.cells Uo 52));have kI:=jy iq
   have gJ:=aF (dZ iq);have Wy:wa.cell? (W,2)=some (.slice (some (b,o)) N fc)/\wa.heap[b]? =ob:=⟨(vE.kept kI aH).cell 2,(kI.block b ng aH).trans hS.2⟩;rw[<-iq];have HA1:=bI vE kI;have I6:=bI Gi kI;have HA3:=bI Ni kI;have Bq:=aF (kG.post kI hsl aJ);have pF:b<wa.heap.size:=aB ng kI.size;clear iq kI hS;refine dB Wy λhS=> ?_;refine gQ rfl ?_;go_wp2_with (go_at_call 25;refine(qQ wa Bq.2).mono ?_;rintro e w2⟨⟨r,rfl,b_,hr1⟩,hs2⟩;have cu:=aF hs2;clear hs2)
   have jL:w2.cell? (W,2)=some (.slice (some (b,o)) N fc)/\w2.heap[b]? =ob:=⟨(cu.row HA1 aG).cell 2,(cu.1.block b pF (λe=>hbs (Option.some.inj e))).trans Wy.2⟩;clear hS Wy;refine dB jL λ_=> ?_;obtain⟨k,rfl⟩:=j4 b_;have CY:k<N:=aG;obtain⟨b',o',f,pa,pc,la,ln,lc,ba,bn,bc,jz,e0,e1,e2,e3,xu,IJ, -⟩:=RJ MC.out (show k<fl.length by rw[<-HN.out];exact CY);obtain⟨rfl,rfl⟩:b=b'/\o=o':=by simpa using jz
   have HE:=aF (And.intro e0 (And.intro e1 (And.intro e2 e3)));have jb:=aF (qw f xu);clear jz e0 e1 e2 e3 xu;refine iX ?_;refine QG (v:= .agg #[S f.name, .slice pa f.params.length pc, .slice la ln lc, .slice ba bn bc]) rfl fV ?_ (by assumption) (λ_ _ _ h=>h) ?_
   ·intro wS hSw;have t0:wS.cell? ⟨b,o+k*4,none⟩=some (S f.name):=(Dz (hSw.2.trans mE.out)).trans HE.1;have t1:wS.cell? ⟨b,o+k*4+1,none⟩=some (.slice pa f.params.length pc):=(Dz (hSw.2.trans mE.out)).trans HE.2.1;have t2:wS.cell? ⟨b,o+k*4+2,none⟩=some (.slice la ln lc):=(Dz (hSw.2.trans mE.out)).trans HE.2.2.1;have t3:wS.cell? ⟨b,o+k*4+3,none⟩=some (.slice ba bn bc):=(Dz (hSw.2.trans mE.out)).trans HE.2.2.2;clear hSw;go_simp
   simp only[Act.put,List.setIfInBounds_toArray,List.set_cons_zero,List.set_cons_succ];clear jL;have ab0:=aF (cu.row gJ aG);refine tY rfl ?_;refine sJ 52 (.tmp 9) (.tmp 34) rfl ?_;refine wpList_store_row rfl 52 (.tmp 9) (.tmp 34) rfl (wd.heap.size) _ rfl rfl 52 Uo (ab0.out) aL fV sv0 ?_;go_wp2;refine iG (pO ?_);refine hrest wd f pa pc _ _ _ _ _ _ _ _ _ _ _ _ _ _ _ _ _ _ _ _ _ _ _ _ _ _ IJ jb aG (setRow_heap _ _ _ _ _ _ ab0.out) ((Bq.out.trans cu.out).post bJ hsl bh) ?_ ?_ ?_
   ·exact(cu.row HA1 aG).kept bJ ct
   ·exact(cu.row I6 aG).kept bJ ct
   ·exact(cu.row HA3 aG).kept bJ ct
end
section
open Go.RowKit Go.Shelf
def ry (c:Sc):Nat->Bool->LS->Prop
 |0,_,_=>False
 |d+1,loop,s=>
  ((s.kind=1/\c.okV s.name/\s.args.length=1/\s.thn= []/\s.els= [])\/(s.kind=2/\c.rM s.name/\s.args.length=2/\s.thn= []/\s.els= [])\/
   (s.kind=3/\s.name= []/\s.args.length=1)\/(s.kind=4/\s.name= []/\s.args.length=1/\s.els= [])\/
   ((s.kind=5\/s.kind=6)/\loop=true/\s.name= []/\s.args.length=0/\s.thn= []/\s.els= [])\/
   ((s.kind=7\/s.kind=8\/s.kind=9)/\s.name= []/\s.args.length=1/\s.thn= []/\s.els= [])\/
   (s.kind=10/\s.name= []/\s.args.length=1/\(∀a∈s.args,a.kind=5)/\s.thn= []/\s.els= []))/\
  (∀x∈s.args,iP c 4 x)/\(∀x∈s.thn,ry c d (loop||s.kind==4) x)/\∀x∈s.els,ry c d loop x
theorem iP.up (c:Sc):∀(d:Nat) (e:LE),iP c d e->iP c (d+1) e
 |0,_,h=>h.elim
 |d+1,_,h=>⟨h.1,λx hx=>iP.up c d x (h.2 x hx)⟩
theorem iP.le {c:Sc} {d d':Nat} (hd:d<=d') {e:LE} (h:iP c d e):iP c d' e:=by
 induction hd with
 |refl=>exact h
 |step _ ih=>exact iP.up c _ _ ih
abbrev OO (x:aK):Prop:=eH x/\isName x=true
structure aqd (c:Sc) (p:LP) (vs:List aK):Prop where
 v:∀x,c.okV x->OO x/\x∈vs
 a:∀x,c.rM x->OO x/\0<=lK p x
 f:∀x n,c.zD x n->OO x/\n<=6/\0<=ji p x/\(qJ p (ji p x)).params.length=n
section
variable {c:Sc} {p:LP} {vs:List aK}
end
theorem afd {l:List aK} (h:l.Nodup):nS l=false:=by
 have hs:(mP l).Nodup:=(List.mergeSort_perm l _).nodup_iff.2 h;have hk:Lib.compact (mP l)=mP l:=Lib.compact_all _ λj hj=>by
  rcases Nat.eq_zero_or_pos j with rfl|h0
  ·simp [Lib.keeps]
  ·have hp:=(List.pairwise_iff_getElem.1 hs) (j - 1) j aG hj aG;refine Lib.keeps_pos λe=>hp ?_;rw[List.getElem!_toArray,List.getElem!_toArray,getElem!_pos (mP l) j hj,getElem!_pos (mP l) (j - 1) aG]at e;exact e.symm
 unfold nS;rw[hk,show(mP l).length=l.length from(List.mergeSort_perm l _).length_eq];simp
abbrev nB:aK:= [98]
abbrev nC:aK:= [99]
abbrev nG:aK:= [103]
abbrev nH:aK:= [104]
def pq:List aK:= [[112],[113],[114],[115],[116],[117]]
def tP:List aK:= [[120],[121],[122],[105],[107]]
def Qi:List aK:= [nC,nB,dX,nH,nG]
theorem ajB:∀x∈pq++tP++Qi,OO x:=by
 have h:(pq++tP++Qi).all (λx=>x.all (λb=>decide (b.toNat<128))&&isName x)=true:=CN;intro x hx;have:=List.all_eq_true.1 h x hx;simp only[Bool.and_eq_true]at this;exact⟨N7 this.1,this.2⟩
structure PQ where
 nm:aK
 np:Nat
 nl:Nat
 body:List LS
def PQ.f (q:PQ):LF:=⟨q.nm,pq.take q.np,tP.take q.nl,q.body⟩
def scQ (aX:List LA) (fs:List PQ) (q:PQ):Sc:=⟨false,λx=>x∈pq.take q.np++tP.take q.nl,λx=>∃a∈aX,a.name=x,λx n=>∃q'∈fs,q'.nm=x/\q'.np=n⟩
structure apy (aX:List LA) (fs:List PQ):Prop where
 arr:aX.map (·.name)= []\/aX.map (·.name)= [nB]\/aX.map (·.name)= [nC,nB]
 size:∀a∈aX,1<=a.size/\a.size<=1048576
 apz:fs.map PQ.nm= [dX]\/fs.map PQ.nm= [dX,nG]\/fs.map PQ.nm= [dX,nH,nG]
 few:∀q∈fs,q.np<=6/\q.nl<=5/\(q.nm=dX->q.np=0)
 body:∀q∈fs,∀s∈q.body,ry (scQ aX fs q) 4 false s
section
variable {aX:List LA} {fs:List PQ}
abbrev TM (aX:List LA) (fs:List PQ):LP:=⟨aX,fs.map PQ.f⟩
end
end
section
end
section
open Go.RowKit Go.Shelf
attribute [local go_sem] Oper.semAt_some
structure dD (sb:Nat) (w1:World) (kd:Int) (nm:aK) (va:Option Addr) (vc:Nat) (es:List EA) (ta:Option Addr) (tc:Nat) (tl:List LS) (ea:Option Addr) (ec:Nat) (el:List LS) (w:World):Prop where
 sg:SG sb w1 w
 eu:sb<w1.heap.size
 row:Row w w1.heap.size 54 [I kd,S nm, .slice va es.length vc, .slice ta tl.length tc, .slice ea el.length ec]
 yx:oq w (w1.heap.size+1) (.slice va es.length vc) es
 tx:SX (λb=>w1.heap.size<b/\b<w.heap.size/\(Value.slice va es.length vc).ownBlock≠some b) w (.slice ta tl.length tc) tl
 ex:SX (λb=>w1.heap.size<b/\b<w.heap.size/\(Value.slice va es.length vc).ownBlock≠some b) w (.slice ea el.length ec) el
section
variable {sb:Nat} {w1 w w':World} {kd:Int} {nm:aK} {va ta ea:Option Addr} {vc tc ec:Nat} {es:List EA} {tl el:List LS}
theorem dD.kept {row:Option Nat} (h:dD sb w1 kd nm va vc es ta tc tl ea ec el w) (hs:SG sb w1 w') (hg:w.grownBy w' row) (hr:∀r,row=some r->r<w1.heap.size):dD sb w1 kd nm va vc es ta tc tl ea ec el w':=by
 have hsz:=hg.size;refine⟨hs,h.eu,h.row.kept hg (λe=>by have:=hr _ e.symm;omega),h.yx.grown hg (λr e=>by have:=hr r e;omega), ?_, ?_⟩
 ·exact(SX.grown h.tx hg (λr e hb=>by have:=hr r e;omega)).weak λb hb=>⟨hb.1,aG,hb.2.2⟩
 ·exact(SX.grown h.ex hg (λr e hb=>by have:=hr r e;omega)).weak λb hb=>⟨hb.1,aG,hb.2.2⟩
theorem dD.draw (h:dD sb w1 kd nm va vc es ta tc tl ea ec el w) (hs:SG sb w w'):dD sb w1 kd nm va vc es ta tc tl ea ec el w':=
 h.kept (h.sg.trans hs) hs.1 (λr e=>by cases e;exact h.eu)
theorem dD.ext (h:dD sb w1 kd nm va vc es ta tc tl ea ec el w) (hg:w.grownBy w' none):dD sb w1 kd nm va vc es ta tc tl ea ec el w':=
 h.kept (h.sg.post hg h.eu aJ) hg aJ
theorem dD.lt (h:dD sb w1 kd nm va vc es ta tc tl ea ec el w):w1.heap.size<w.heap.size:=h.row.lt
theorem dD.set {MR:Int} {MS:aK} {v:Value} {j:Nat} (h:dD sb w1 kd nm va vc es ta tc tl ea ec el w) (hw:w'=w.setCell (w1,j) v) (ak1: [I kd,S nm, .slice va es.length vc, .slice ta tl.length tc, .slice ea el.length ec].set j v= [I MR,S MS, .slice va es.length vc, .slice ta tl.length tc, .slice ea el.length ec]):dD sb w1 MR MS va vc es ta tc tl ea ec el w':=by
 have hg:w.grownBy w' (some w1):=by rw[hw];exact bO _ _ _ _
 have hsz:=hg.size;refine⟨h.sg.post hg h.eu u_,h.eu, ?_,h.yx.grown hg bh, ?_, ?_⟩
 ·rw[hw,<-ak1];exact h.row.set j v
 ·exact(SX.grown h.tx hg lG).weak λb hb=>⟨hb.1,aG,hb.2.2⟩
 ·exact(SX.grown h.ex hg lG).weak λb hb=>⟨hb.1,aG,hb.2.2⟩
theorem dD.kind (MR:Int) (h:dD sb w1 kd nm va vc es ta tc tl ea ec el w):dD sb w1 MR nm va vc es ta tc tl ea ec el (w.setCell (w1,0) (I MR)):=h.set rfl rfl
theorem dD.name (MS:aK) (h:dD sb w1 kd nm va vc es ta tc tl ea ec el w):dD sb w1 kd MS va vc es ta tc tl ea ec el (w.setCell (w1,1) (S MS)):=h.set rfl rfl
theorem dD.wk (h:dD sb w1 kd nm va vc es ta tc tl ea ec el w):∀r,(Value.slice va es.length vc).ownBlock=some r->w1.heap.size<r/\r<w.heap.size:=λr e=>by
 have:=cO h.yx.1 r e
 omega
theorem dD.thn {Qe:Option Addr} {Qf:Nat} {MT:List LS} {w2:World} (h:dD sb w1 kd nm va vc es ta tc tl ea ec el w) (hs:SG sb w w2) (hx:SX (w.heap.size<=·) w2 (.slice Qe MT.length Qf) MT):dD sb w1 kd nm va vc es Qe Qf MT ea ec el (w2.setCell (w1,3) (.slice Qe MT.length Qf)):=by
 have h2:=h.draw hs;have hg:w2.grownBy (w2.setCell (w1,3) (.slice Qe MT.length Qf)) (some w1):=bO _ _ _ _;have hsz:=hg.size;have hl:=h.lt;refine⟨h2.sg.post hg h.eu u_,h.eu,h2.row.set 3 _,h2.yx.grown hg bh, ?_, ?_⟩
 ·exact(SX.grown (SX.size hx) hg lG).weak λb hb=>⟨aG,aG,λe=>by have:=(h.wk b e).2;omega⟩
 ·exact(SX.grown h2.ex hg lG).weak λb hb=>⟨hb.1,aG,hb.2.2⟩
theorem dD.els {Qg:Option Addr} {Qh:Nat} {BB:List LS} {w2:World} (h:dD sb w1 kd nm va vc es ta tc tl ea ec el w) (hs:SG sb w w2) (hx:SX (w.heap.size<=·) w2 (.slice Qg BB.length Qh) BB):dD sb w1 kd nm va vc es ta tc tl Qg Qh BB (w2.setCell (w1,4) (.slice Qg BB.length Qh)):=by
 have h2:=h.draw hs;have hg:w2.grownBy (w2.setCell (w1,4) (.slice Qg BB.length Qh)) (some w1):=bO _ _ _ _;have hsz:=hg.size;have hl:=h.lt;refine⟨h2.sg.post hg h.eu u_,h.eu,h2.row.set 4 _,h2.yx.grown hg bh, ?_, ?_⟩
 ·exact(SX.grown h2.tx hg lG).weak λb hb=>⟨hb.1,aG,hb.2.2⟩
 ·exact(SX.grown (SX.size hx) hg lG).weak λb hb=>⟨aG,aG,λe=>by have:=(h.wk b e).2;omega⟩
theorem dD.app {y:EA} {o:Obj} {w2 w3:World} {g cap:Nat} (h:dD sb w1 kd nm va vc es ta tc tl ea ec el w) (hs:SG sb w w2) (hx:EX (w.heap.size<=·) w2 y.av y.e)
  (ho:a_ 5 31 kB w3 (w1,1) (.slice (some (g,0)) (es.length+1) cap) (es++ [y])) (hg:(w2.alloc o).grownBy w3 (Value.slice va es.length vc).ownBlock)
  (hat:(Value.slice va es.length vc).ownBlock=some g\/g=(w2.alloc o).heap.size):
  dD sb w1 kd nm (some (g,0)) cap (es++ [y]) ta tc tl ea ec el (w3.setCell (w1,2) (.slice (some (g,0)) (es.length+1) cap)):=by
 have h2:=h.draw hs;have h2':=h2.ext (cE w2 o none);have hl:=h.lt;have hz2:w.heap.size<=w2.heap.size:=hs.1.size;have hza:(w2.alloc o).heap.size=w2.heap.size+1:=aH;have hz3:=hg.size;have hown:=h.wk;have hs3:SG sb w1 w3:=h2'.sg.post hg h.eu (λr e=>by have:=hown r e;omega);have hr3:Row w3 w1 54 _:=h2'.row.kept hg (λe=>by have:=hown _ e.symm;omega);have iM:=oq.app h.yx hs.1 (λr e=>by cases e;have:=h.eu;omega) hx aG ho hg rfl hat;have jg:w3.grownBy (w3.setCell (w1,2) (.slice (some (g,0)) (es.length+1) cap)) (some w1):=bO _ _ _ _;have hzs:=jg.size;have hlen:(es++ [y]).length=es.length+1:=aH;have hne:∀b,b<(w2.alloc o).heap.size->(Value.slice va es.length vc).ownBlock≠some b->(Value.slice (some (g,0)) (es++ [y]).length cap).ownBlock≠some b:=λb hb hn e=>by
  have e:some g=some b:=e;obtain rfl:=Option.some.inj e;rcases hat with h4|h4
  ·exact hn h4
  ·omega
 refine⟨hs3.post jg h.eu u_,h.eu, ?_, ?_, ?_, ?_⟩
 ·rw[hlen];exact hr3.set 2 _
 ·rw[hlen];exact iM.grown jg bh
 ·exact(SX.grown (SX.grown h2'.tx hg (λr e hb=>hb.2.2 e)) jg lG).weak λb hb=>⟨hb.1,aG,hne b hb.2.1 hb.2.2⟩
 ·exact(SX.grown (SX.grown h2'.ex hg (λr e hb=>hb.2.2 e)) jg lG).weak λb hb=>⟨hb.1,aG,hne b hb.2.1 hb.2.2⟩
theorem dD.new (w1:World) (hs:Src sb w1) (kd:Int):dD sb w1 kd [] none 0 [] none 0 [] none 0 [] (w1.alloc (.cells #[I kd,S [], .slice none 0 0, .slice none 0 0, .slice none 0 0] 54)):=by
 refine⟨⟨by have:=cE w1 (.cells #[I kd,S [], .slice none 0 0, .slice none 0 0, .slice none 0 0] 54) (some sb);exact this,hs.kept iD aJ⟩,hs.lt,cj _ _,oq.nil _ _,⟨0,aP.nil _ _ _ _⟩,⟨0,aP.nil _ _ _ _⟩⟩
theorem dD.nil (hs:SG sb w1 w) (eu:sb<w1.heap.size) (hr:Row w w1 54 [I kd,S nm, .slice none 0 0, .slice none 0 0, .slice none 0 0]):dD sb w1 kd nm none 0 [] none 0 [] none 0 [] w:=
 ⟨hs,eu,hr,oq.nil _ _,⟨0,aP.nil _ _ _ _⟩,⟨0,aP.nil _ _ _ _⟩⟩
theorem dD.part (h:dD sb w1 kd nm va vc es ta tc tl ea ec el w) (hn:es.length<=1000000000):pU (w1.heap.size<=·) w ⟨.mk kd nm (es.map EA.e) tl el,va,vc,ta,tc,ea,ec⟩:=by
 have h1:=h.yx.read (e:= .mk 0 0 0 [] (es.map EA.e)) hn rfl;refine⟨?_,SX.weak h.tx λb hb=>(by omega:w1.heap.size<=b),SX.weak h.ex λb hb=>(by omega:w1.heap.size<=b)⟩;show EX _ w (.slice va (es.map EA.e).length vc) _;rw[aC];exact EX.weak h1 λb hb=>(by omega:w1.heap.size<=b)
end
def rH (kd:Int):Nat:=if kd=2 then 2 else if kd=5\/kd=6 then 0 else 1
section
variable {c:Sc} {d:Nat} {loop:Bool}
def jv (c:Sc) (d:Nat) (loop:Bool) (kd:Int) (nm:aK) (es:List EA) (tl el:List LS):Prop:=
 es.length<=rH kd/\(∀p∈es,iP c 4 p.e)/\∀l,es.map EA.e<+:l->l.length=rH kd->(∀e∈l,iP c 4 e)->ry c (d+1) loop (.mk kd nm l tl el)
theorem jv.print {kd:Int} (hk:kd=7\/kd=8\/kd=9):jv c d loop kd [] [] [] []:=by
 have hm:rH kd=1:=by unfold rH;rw[if_neg aG,if_neg aG]
 exact⟨aH,aJ,λl _ hl h=>⟨.inr (.inr (.inr (.inr (.inr (.inl ⟨hk,rfl,hl.trans hm,rfl,rfl⟩))))),h,aJ,aJ⟩⟩
theorem jv.set {nm:aK} (h1:c.okV nm):jv c d loop 1 nm [] [] []:=
 ⟨aH,aJ,λl _ hl h=>⟨.inl ⟨rfl,h1,hl,rfl,rfl⟩,h,aJ,aJ⟩⟩
theorem jv.store {nm:aK} (h1:c.rM nm):jv c d loop 2 nm [] [] []:=
 ⟨aH,aJ,λl _ hl h=>⟨.inr (.inl ⟨rfl,h1,hl,rfl,rfl⟩),h,aJ,aJ⟩⟩
theorem jv.brk {kd:Int} (hk:kd=5\/kd=6) (hl:loop=true):jv c d loop kd [] [] [] []:=by
 have hm:rH kd=0:=by unfold rH;rw[if_neg aG,if_pos hk]
 exact⟨aH,aJ,λl _ hn h=>⟨.inr (.inr (.inr (.inr (.inl ⟨hk,hl,rfl,hn.trans hm,rfl,rfl⟩)))),h,aJ,aJ⟩⟩
theorem jv.call {y:EA} (hy:iP c 4 y.e) (hk:y.e.kind=5):jv c d loop 10 [] [y] [] []:=
 ⟨by simp [rH],(λp hp=>by obtain rfl:=ai hp;exact hy),λl hp hl h=>⟨.inr (.inr (.inr (.inr (.inr (.inr ⟨rfl,rfl,hl,λa ha=>by
  obtain⟨t,rfl⟩:=hp
  have ht:t= []:=by
   have hl:([y.e]++t).length=1:=hl;exact List.length_eq_zero_iff.1 (by simpa using hl)
  subst ht;have ha:a∈ [y.e]++ []:=ha;rw[List.append_nil]at ha;obtain rfl:=ai ha;exact hk,rfl,rfl⟩))))),h,aJ,aJ⟩⟩
theorem jv.iff {y:EA} {tl el:List LS} (hy:iP c 4 y.e) (ht:∀s∈tl,ry c d loop s) (he:∀s∈el,ry c d loop s):jv c d loop 3 [] [y] tl el:=
 ⟨by simp [rH],(λp hp=>by obtain rfl:=ai hp;exact hy),λl _ hl h=>⟨.inr (.inr (.inl ⟨rfl,rfl,hl⟩)),h,(λx hx=>by
  show ry c d (loop||((3:Int)==4)) x
  rw[show((3:Int)==4)=false from rfl,Bool.or_false]
  exact ht x hx),he⟩⟩
theorem jv.whl {y:EA} {tl:List LS} (hy:iP c 4 y.e) (ht:∀s∈tl,ry c d true s):jv c d loop 4 [] [y] tl []:=
 ⟨by simp [rH],(λp hp=>by obtain rfl:=ai hp;exact hy),λl _ hl h=>⟨.inr (.inr (.inr (.inl ⟨rfl,rfl,hl,rfl⟩))),h,(λx hx=>by
  show ry c d (loop||((4:Int)==4)) x
  rw[show((4:Int)==4)=true from rfl,Bool.or_true]
  exact ht x hx),aJ⟩⟩
theorem jv.app {kd:Int} {nm:aK} {es:List EA} {tl el:List LS} {y:EA} (h:jv c d loop kd nm es tl el) (hy:iP c 4 y.e) (hl:es.length<rH kd):jv c d loop kd nm (es++ [y]) tl el:=by
 refine⟨ct,λp hp=> ?_,λl hp hn hd=>h.2.2 l ?_ hn hd⟩
 ·rcases List.mem_append.1 hp with hp|hp
  ·exact h.2.1 p hp
  ·obtain rfl:=ai hp;exact hy
 ·rw[List.map_append]at hp;exact(List.prefix_append _ _).trans hp
theorem jv.full {kd:Int} {nm:aK} {es:List EA} {tl el:List LS} (h:jv c d loop kd nm es tl el) (hl:es.length=rH kd):ry c (d+1) loop (.mk kd nm (es.map EA.e) tl el):=
 h.2.2 _ (List.prefix_refl _) (by rw[aC,hl]) λe he=>by
  obtain⟨p,hp,rfl⟩:=List.mem_map.1 he
  exact h.2.1 p hp
end
end
end Go.Proofs.YtjgbkdbkachciaaGreatDoor
