import Derived.Test.YtjgbkdbkachciaaGreatDoorG3
set_option linter.all false
namespace Go.Proofs.YtjgbkdbkachciaaGreatDoor
set_option maxRecDepth 100000
set_option maxHeartbeats 16000000
section
open Go.RowKit Go.Shelf
attribute [local go_sem] Oper.semAt_some
def OT.wi:OT:= .one 0 0 (.one 0 1 (.one 0 4 (.two 2 5 (.two 3 5 (.one 1 5 (.one 0 6 (.one 2 7 .nil))) (.one 1 3 (.one 0 6 (.one 2 7 .nil)))) (.one 1 2 (.one 1 3 (.one 0 6 (.one 2 7 .nil)))))))
def OT.Ws:OT:= .one 0 7 (.one 1 8 (.one 0 9 (.one 1 10 (.one 1 11 (.one 0 12 (.one 2 13 .nil))))))
def OT.wa:OT:= .one 0 0 (.one 0 1 (.one 0 2 (.one 0 5 (.two 3 4 (.two 4 6 (.one 1 6 .Ws) (.one 1 4 .Ws)) (.one 1 3 (.one 1 6 .Ws))))))
theorem R9 {r:Nat} (h:r<5):∃z:Int,[I 0,I (-1),I 1,I 1048576,I 1048577][r]? =some (I z):=by
 rcases(by omega:r=0\/r=1\/r=2\/r=3\/r=4)with rfl|rfl|rfl|rfl|rfl
 ·exact⟨0,rfl⟩
 ·exact⟨-1,rfl⟩
 ·exact⟨1,rfl⟩
 ·exact⟨1048576,rfl⟩
 ·exact⟨1048577,rfl⟩
def OT.wb:OT:= .one 0 0 (.one 0 1 (.one 0 3 (.two 2 4 (.one 1 4 (.one 1 5 (.one 0 6 (.one 2 7 .nil)))) (.one 1 2 (.one 1 5 (.one 0 6 (.one 2 7 .nil)))))))
theorem RS.O5 {d:Nat} {B:Nat->Prop} {w:World} {C:Nat->Value} {s:LS} (h:RS d B w C s):∀j,j<5->(C j).oneCell'=true:=by
 cases d with
 |zero=>exact h.elim
 |succ d=>
  obtain⟨h0,h1,⟨_,a2,c2,h2,_⟩,⟨a3,c3,h3,_⟩,⟨a4,c4,h4,_⟩⟩:=h;intro j hj;rcases(by omega:j=0\/j=1\/j=2\/j=3\/j=4)with rfl|rfl|rfl|rfl|rfl
  ·rw[h0];rfl
  ·rw[h1];rfl
  ·rw[h2];rfl
  ·rw[h3];rfl
  ·rw[h4];rfl
theorem aja {w':World} {K:Nat->Prop} {base d1 d2:Nat} {l1 l2:List LS} {v':Value} {n1 n2:List Value} (hown:w'.ownsRow base 54 5 v' (l1.length+l2.length) (n1++n2)) (nY:n1.length=l1.length*5)
  (h1:∀i y,l1[i]? =some y->∃C:Nat->Value,RS d1 K w' C y/\∀j,j<5->n1[i*5+j]? =some (C j)) (h2:∀i y,l2[i]? =some y->∃C:Nat->Value,RS d2 K w' C y/\∀j,j<5->n2[i*5+j]? =some (C j))
  (hl:l1.length+l2.length<=1000000000) (hK:∀q,v'.ownBlock=some q->K q):SX K w' v' (l1++l2):=by
 refine⟨max d1 d2, ?_⟩;have:=Xc (R:=RS (max d1 d2) K) (l:=l1++l2) (v:=v') (w:=w') (k:=5) (xs:=n1++n2) (e:=54) (base:=base) (by rw[ax];exact hown) (by rw[ax];exact hl) (λi y hy=> ?_)
 ·exact this.weak hK i20
 ·by_cases hi:i<l1.length
  ·rw[List.getElem?_append_left hi]at hy;obtain⟨C,hC,hj⟩:=h1 i y hy;refine⟨C,RS.le (Nat.le_max_left _ _) hC,λj hjl=> ?_⟩;rw[List.getElem?_append_left aG];exact hj j hjl
  ·rw[List.getElem?_append_right aG]at hy;obtain⟨C,hC,hj⟩:=h2 _ y hy;refine⟨C,RS.le (Nat.le_max_right _ _) hC,λj hjl=> ?_⟩;rw[List.getElem?_append_right aG,nY,show i*5+j - l1.length*5=(i - l1.length)*5+j by omega];exact hj j hjl
theorem pU.abN {B:Nat->Prop} {w:World} {x:SD} {g:Nat} (hp:pU B w x) (hr:Row w g 54 (ke x)) (hg:B g):SX B w (.slice (some (g,0)) 1 1) [x.s]:=by
 obtain⟨d1,h1⟩:=hp.t;obtain⟨d2,h2⟩:=hp.e;refine⟨max d1 d2+1,aP.one hr hg rfl ?_⟩;exact⟨rfl,rfl,hp.a,h1.weak (λ_ h=>h) (λ_ _ h'=>RS.le (Nat.le_max_left _ _) h'),h2.weak (λ_ h=>h) (λ_ _ h'=>RS.le (Nat.le_max_right _ _) h')⟩
theorem Ym {a b c:World} {r0 row:Option Nat} (h:a.grownBy b r0) (k:b.grownBy c row) (hr:∀r,row=some r->a.heap.size<=r):a.grownBy c r0:=
 ⟨k.os.trans h.os,k.tape.trans h.tape,k.output.trans h.output,az h.size k.size,λi hi hne=>(k.block i (aB hi h.size) (λe=>by have:=hr i e.symm;omega)).trans (h.block i hi hne)⟩
abbrev vW (vg:Nat):Value:= .slice (some ⟨vg,0,none⟩) 2 2
abbrev O6 (vg:Nat) (cf:Bool):List Value:= [vW vg, .slice none 0 0, .slice none 0 0, .bool cf, .bool false]
structure KW (sz cb gf pb fb xb:Nat) (gA:Option Nat) (b:Nat):Prop where
 lo:sz+2<=b
 c:b≠cb
 g:b≠gf
 p:b≠pb
 f:b≠fb
 x:b≠xb
 a:gA≠some b
structure WX (W:World) (vg cb gf pb fb xb:Nat) (cf:Bool) (top:Nat) (w:World) (av:Value) (fc:Nat) (aX:List LA) (fs:List FG) (f:FG) (x:SD):Prop where
 below:Below W.heap.size W w
 src:Src (W.heap.size+1) w
 out:Row w W.heap.size 27 [.slice none 0 0, .slice none 0 0]
 lv:W.heap.size+1<vg
 l1:vg<cb
 l2:cb<gf
 l3:gf<pb
 l4:pb<fb
 l5:fb<xb
 var:Row w vg 9 [S [120],S [112]]
 c:Row w cb 64 (O6 vg cf)
 p:Row w pb 27 [av, .slice (some ⟨gf,0,none⟩) fs.length fc]
 rf:Row w fb 52 (qG f)
 rx:Row w xb 54 (ke x)
 arr:a_ 2 68 sL w (cb+1) av aX
 BP:∀g,av.ownBlock=some g->g≠gf/\g≠pb/\g≠fb/\g≠xb/\g<top
 fns:a_ 4 52 qG w (cb+1) (.slice (some ⟨gf,0,none⟩) fs.length fc) fs
 vU:∀q∈fs,qH (λb=>KW W.heap.size cb gf pb fb xb av.ownBlock b/\b<top) w q.pv q.lv q.bv q.f
 fp:qH (λb=>KW W.heap.size cb gf pb fb xb av.ownBlock b/\b<top) w f.pv f.lv f.bv f.f
 xp:pU (KW W.heap.size cb gf pb fb xb av.ownBlock) w x
 nA:∀a∈aX,fH a.name
 nF:∀q∈fs,Js q.f
 nf:Js f.f
 nx:vV x.s
 la:aX.length<=3
 lf:fs.length<=3
section
variable {W w w' w1:World} {vg cb gf pb fb xb top fc:Nat} {cf:Bool} {av:Value} {aX:List LA} {fs:List FG} {f:FG} {x:SD}
theorem WX.lt (h:WX W vg cb gf pb fb xb cf top w av fc aX fs f x):xb<w.heap.size:=h.rx.lt
theorem WX.le {Ea:Nat} (h:WX W vg cb gf pb fb xb cf top w av fc aX fs f x) (ht:top<=Ea):WX W vg cb gf pb fb xb cf Ea w av fc aX fs f x:=
 {h with
  BP:=λg hg=>by obtain⟨h1,h2,h3,h4,h5⟩:=h.BP g hg;exact⟨h1,h2,h3,h4,aG⟩
  vU:=λq hq=>(h.vU q hq).weak λb hb=>⟨hb.1,aG⟩
  fp:=h.fp.weak λb hb=>⟨hb.1,aG⟩}
theorem WX.new (h:WX W vg cb gf pb fb xb cf top w av fc aX fs f x) {b:Nat} (hb:w.heap.size<=b):KW W cb gf pb fb xb av.ownBlock b:=by
 have:=h.lt;have:=h.lv;have:=h.l1;have:=h.l2;have:=h.l3;have:=h.l4;have:=h.l5;exact⟨aG,aG,aG,aG,aG,aG,λe=>by have:=(cO h.arr b e).2;omega⟩
theorem WX.own (h:WX W vg cb gf pb fb xb cf top w av fc aX fs f x) {r:Nat} (hr:r<=cb\/r=gf\/r=pb\/r=fb\/r=xb\/w.heap.size<=r):av.ownBlock=none\/av.ownBlock≠some r:=by
 cases hv:av.ownBlock with
 |none=>exact .inl rfl
 |some g=>
  right;intro e;obtain rfl:=Option.some.inj e;have h1:=cO h.arr g hv;have h2:=h.BP g hv;omega
theorem WX.kept {row:Option Nat} (h:WX W vg cb gf pb fb xb cf top w av fc aX fs f x) (hg:w.grownBy w' row) (hs:Src (W,1) w') (hr:∀r,row=some r->r=W.heap.size+1):WX W vg cb gf pb fb xb cf top w' av fc aX fs f x:=by
 have e1:=h.lv;have e2:=h.l1;have e3:=h.l2;have e4:=h.l3;have e5:=h.l4;have e6:=h.l5;have hK:∀r,row=some r-> ¬KW W cb gf pb fb xb av.ownBlock r:=λr e hk=>by have:=hr r e;have:=hk.lo;omega
 have hne:∀g,g≠W.heap.size+1->some g≠row:=λg hg e=>hg (hr g e.symm);exact{h with
  below:=h.below.grown hg h.below.size (λr e=>by have:=hr r e;omega)
  src:=hs
  out:=h.out.kept hg (hne _ aG)
  var:=h.var.kept hg (hne _ aG)
  c:=h.c.kept hg (hne _ aG)
  p:=h.p.kept hg (hne _ aG)
  rf:=h.rf.kept hg (hne _ aG)
  rx:=h.rx.kept hg (hne _ aG)
  arr:=j0 h.arr hg (by
   cases row with
   |none=>cases av.ownBlock<;>simp
   |some r=>exact h.own (.inl (iZ (hr r rfl))))
  fns:=j0 h.fns hg (.inr (λe=>hne gf aG e))
  vU:=λq hq=>(h.vU q hq).grown hg λr e hk=>hK r e hk.1
  fp:=h.fp.grown hg λr e hk=>hK r e hk.1
  xp:=h.xp.grown hg hK}
theorem WX.draw (h:WX W vg cb gf pb fb xb cf top w av fc aX fs f x) (hs:SG (W,1) w w'):WX W vg cb gf pb fb xb cf top w' av fc aX fs f x:=h.kept hs.1 hs.2 λr e=>(Option.some.inj e).symm
theorem WX.al (h:WX W vg cb gf pb fb xb cf top w av fc aX fs f x) (hg:w.grownBy w' none):WX W vg cb gf pb fb xb cf top w' av fc aX fs f x:=h.kept hg (h.src.kept hg aJ) λr e=>by cases e
theorem WX.sg (h:WX W vg cb gf pb fb xb cf top w av fc aX fs f x):SG (W,1) w w:=⟨⟨rfl,rfl,rfl,ay _,λ_ _ _=>rfl⟩,h.src⟩
theorem WX.sc (h:WX W vg cb gf pb fb xb cf top w av fc aX fs f x):Ch (cW cf) (W,1) w (vW vg) (.slice none 0 0) (.slice none 0 0):=
 ⟨⟨[[120],[112]],Hr (l:= [[120],[112]]) h.var (iZ h.lv) aQ aQ,λ_ x hx=>Fa x (by
   simp only[List.mem_cons,List.not_mem_nil,or_false]at hx
   rcases hx with rfl|rfl<;>decide)⟩,⟨[],aP.nil _ _ _ _,λ_ x hx=>by cases hx⟩,⟨[],aP.nil _ _ _ _,λ_ x hx=>by cases hx⟩,λ_=>⟨λ_ h=>h,λ_ h=>h,λ_ _ h h'=>⟨h,h'⟩⟩⟩
theorem WX.O7 {row:Option Nat} {x':SD} (h:WX W vg cb gf pb fb xb cf top w av fc aX fs f x) (ht:row=none\/top<=xb+1) (hg:w.grownBy w1 row) (hr:∀r,row=some r->xb<r) (hg2:w1.grownBy w' (some xb))
  (hx:Row w' xb 54 (ke x')) (hp:pU (KW W cb gf pb fb xb av.ownBlock) w' x') (hn:vV x'.s):WX W vg cb gf pb fb xb cf top w' av fc aX fs f x':=by
 have e1:=h.lv;have e2:=h.l1;have e3:=h.l2;have e4:=h.l3;have e5:=h.l4;have e6:=h.l5;have hne:∀g,g<xb->some g≠row:=λg hg e=>by have:=hr g e.symm;omega
 have jO:∀g,g<xb->some g≠some xb:=λg hg e=>by have:=Option.some.inj e;omega
 have hb:=h.below;have hb1:=hb.grown hg hb.size (λr e=>by have:=hr r e;omega);have hsz:w.heap.size<=w1.heap.size:=hg.size;have II:=hb.size;have hK:∀r,row=some r-> ¬(KW W cb gf pb fb xb av.ownBlock r/\r<top):=λr e hk=>by
  rcases ht with rfl|ht
  ·cases e
  ·have:=hr r e;omega
 have hK2:∀r,some xb=some r-> ¬(KW W cb gf pb fb xb av.ownBlock r/\r<top):=λr e hk=>hk.1.x (Option.some.inj e).symm;exact{h with
  below:=hb1.grown hg2 aG bh
  src:=(h.src.kept hg (λr e=>by have:=hr r e;omega)).kept hg2 bh
  out:=(h.out.kept hg (hne _ aG)).kept hg2 (jO _ aG)
  var:=(h.var.kept hg (hne _ aG)).kept hg2 (jO _ aG)
  c:=(h.c.kept hg (hne _ aG)).kept hg2 (jO _ aG)
  p:=(h.p.kept hg (hne _ aG)).kept hg2 (jO _ aG)
  rf:=(h.rf.kept hg (hne _ aG)).kept hg2 (jO _ aG)
  rx:=hx
  arr:=j0 (j0 h.arr hg (by
   cases hrow:row with
   |none=>cases av.ownBlock<;>simp
   |some r=>
    cases hv:av.ownBlock with
    |none=>exact .inl rfl
    |some g=>
     right;intro e;obtain rfl:=Option.some.inj e;rcases ht with rfl|ht
     ·cases hrow
     ·have:=hr g hrow;have:=(h.BP g hv).2.2.2.2;omega)) hg2 (h.own (.inr (.inr (.inr (.inr (.inl rfl))))))
  fns:=j0 (j0 h.fns hg (.inr (λe=>hne gf aG e))) hg2 (.inr (λe=>jO gf aG e))
  vU:=λq hq=>((h.vU q hq).grown hg hK).grown hg2 hK2
  fp:=(h.fp.grown hg hK).grown hg2 hK2
  xp:=hp
  nx:=hn}
theorem WX.L1 {f':FG} (h:WX W vg cb gf pb fb xb cf top w av fc aX fs f x) (hg2:w.grownBy w' (some fb))
  (hx:Row w' fb 52 (qG f')) (hp:qH (λb=>KW W cb gf pb fb xb av.ownBlock b/\b<top) w f'.pv f'.lv f'.bv f'.f) (hn:Js f'.f):WX W vg cb gf pb fb xb cf top w' av fc aX fs f' x:=by
 have e1:=h.lv;have e2:=h.l1;have e3:=h.l2;have e4:=h.l3;have e5:=h.l4;have e6:=h.l5;have jO:∀g,g≠fb->some g≠some fb:=λg hg e=>hg (Option.some.inj e);have hb:=h.below;have II:=hb.size;have hK2:∀r,some fb=some r-> ¬(KW W cb gf pb fb xb av.ownBlock r/\r<top):=λr e hk=>hk.1.f (Option.some.inj e).symm;exact{h with
  below:=hb.grown hg2 aG bh
  src:=h.src.kept hg2 bh
  out:=h.out.kept hg2 (jO _ aG)
  var:=h.var.kept hg2 (jO _ aG)
  c:=h.c.kept hg2 (jO _ aG)
  p:=h.p.kept hg2 (jO _ aG)
  rf:=hx
  rx:=h.rx.kept hg2 (jO _ aG)
  arr:=j0 h.arr hg2 (h.own (.inr (.inr (.inr (.inl rfl)))))
  fns:=j0 h.fns hg2 (.inr (λe=>jO gf aG e))
  vU:=λq hq=>(h.vU q hq).grown hg2 hK2
  fp:=hp.grown hg2 hK2
  xp:=h.xp.grown hg2 (λr e hk=>hk.f (Option.some.inj e).symm)
  nf:=hn}
theorem WX.Uh {Ea:Nat} {m_:Value} {O8:List LA} (h:WX W vg cb gf pb fb xb cf top w av fc aX fs f x) (hg:w.grownBy w1 av.ownBlock) (ho:a_ 2 68 sL w1 (cb+1) m_ O8) (ht:top<=Ea)
  (hat:∀g,m_.ownBlock=some g->av.ownBlock=some g\/(w.heap.size<=g/\g<Ea)) (hg2:w1.grownBy w' (some pb)) (hx:Row w' pb 27 [m_, .slice (some (gf,0)) fs.length fc])
  (hn:∀a∈O8,fH a.name) (hl:O8.length<=3):WX W vg cb gf pb fb xb cf Ea w' m_ fc O8 fs f x:=by
 have e1:=h.lv;have e2:=h.l1;have e3:=h.l2;have e4:=h.l3;have e5:=h.l4;have e6:=h.l5;have hxl:=h.lt;have hb:=h.below;have II:=hb.size;have hsz:w.heap.size<=w1.heap.size:=hg.size;have gM:∀g,av.ownBlock=some g->cb<g/\g≠gf/\g≠pb/\g≠fb/\g≠xb/\g<top:=λg hg=>⟨(cO h.arr g hg).1,h.BP g hg⟩;have hne:∀g,(g<=cb\/g=gf\/g=pb\/g=fb\/g=xb)->some g≠av.ownBlock:=λg hg e=>by have:=gM g e.symm;omega
 have jO:∀g,g≠pb->some g≠some pb:=λg hg e=>hg (Option.some.inj e);have abO:∀g,m_.ownBlock=some g->g≠gf/\g≠pb/\g≠fb/\g≠xb/\g<Ea:=λg hg=>by
  rcases hat g hg with h1|h1
  ·have:=gM g h1;omega
  ·omega
 have hK:∀b,KW W cb gf pb fb xb av.ownBlock b->b<w.heap.size->KW W cb gf pb fb xb m_.ownBlock b:=λb hk hl=>⟨hk.lo,hk.c,hk.g,hk.p,hk.f,hk.x,λe=>by
  rcases hat b e with h1|h1
  ·exact hk.a h1
  ·omega⟩
 have iE:∀(pv lv bv:Value) (q:LF),qH (λb=>KW W cb gf pb fb xb av.ownBlock b/\b<top) w pv lv bv q->qH (λb=>KW W cb gf pb fb xb m_.ownBlock b/\b<Ea) w' pv lv bv q:=λpv lv bv q hq=>
  ((hq.size.grown hg (λr e hk=>hk.1.1.a e)).grown hg2 (λr e hk=>hk.1.1.p (Option.some.inj e).symm)).weak λb hb=>⟨hK b hb.1.1 hb.2,aG⟩
 exact{h with
  below:=(hb.grown hg II (λr e=>by have:=gM r e;omega)).grown hg2 aG bh
  src:=(h.src.kept hg (λr e=>by have:=gM r e;omega)).kept hg2 bh
  out:=(h.out.kept hg (hne _ aG)).kept hg2 (jO _ aG)
  var:=(h.var.kept hg (hne _ aG)).kept hg2 (jO _ aG)
  c:=(h.c.kept hg (hne _ aG)).kept hg2 (jO _ aG)
  p:=hx
  rf:=(h.rf.kept hg (hne _ aG)).kept hg2 (jO _ aG)
  rx:=(h.rx.kept hg (hne _ aG)).kept hg2 (jO _ aG)
  arr:=j0 ho hg2 (by
   cases hv:m_.ownBlock with
   |none=>exact .inl rfl
   |some g=>right;intro e;obtain rfl:=Option.some.inj e;exact(abO g hv).2.1 rfl)
  BP:=abO
  fns:=j0 (j0 h.fns hg (.inr (λe=>hne gf aG e))) hg2 (.inr (λe=>jO gf aG e))
  vU:=λq hq=>iE _ _ _ _ (h.vU q hq)
  fp:=iE _ _ _ _ h.fp
  xp:=((h.xp.size.grown hg (λr e hk=>hk.1.a e)).grown hg2 (λr e hk=>hk.1.p (Option.some.inj e).symm)).weak λb hb=>hK b hb.1 hb.2
  nA:=hn
  la:=hl}
theorem WX.alL (h:WX W vg cb gf pb fb xb cf top w av fc aX fs f x) {k:Nat} (hk:k<fs.length):WX W vg cb gf pb fb xb cf top (w.setCells gf (k*4) (qG f)) av fc aX (fs.set k f) f x:=by
 have e1:=h.lv;have e2:=h.l1;have e3:=h.l2;have e4:=h.l3;have e5:=h.l4;have e6:=h.l5;have hg2:w.grownBy (w.setCells gf (k*4) (qG f)) (some gf):=WR _ _ _;have jO:∀g,g≠gf->some g≠some gf:=λg hg e=>hg (Option.some.inj e);have hb:=h.below;have II:=hb.size;have hK2:∀r,some gf=some r-> ¬(KW W cb gf pb fb xb av.ownBlock r/\r<top):=λr e hk=>hk.1.g (Option.some.inj e).symm;exact{h with
  below:=hb.grown hg2 aG bh
  src:=h.src.kept hg2 bh
  out:=h.out.kept hg2 (jO _ aG)
  var:=h.var.kept hg2 (jO _ aG)
  c:=h.c.kept hg2 (jO _ aG)
  p:=by rw[List.length_set];exact h.p.kept hg2 (jO _ aG)
  rf:=h.rf.kept hg2 (jO _ aG)
  rx:=h.rx.kept hg2 (jO _ aG)
  arr:=j0 h.arr hg2 (h.own (.inr (.inl rfl)))
  fns:=by rw[List.length_set];exact a_.set h.fns Q_ aQ hk f
  vU:=λq hq=>by
   rcases List.mem_or_eq_of_mem_set hq with hq|rfl
   ·exact(h.vU q hq).grown hg2 hK2
   ·exact h.fp.grown hg2 hK2
  fp:=h.fp.grown hg2 hK2
  xp:=h.xp.grown hg2 (λr e hk=>hk.g (Option.some.inj e).symm)
  nF:=λq hq=>by
   rcases List.mem_or_eq_of_mem_set hq with hq|rfl
   ·exact h.nF q hq
   ·exact h.nf
  lf:=by rw[List.length_set];exact h.lf}
theorem WX.px (h:WX W vg cb gf pb fb xb cf top w av fc aX fs f x):PX (W.heap.size<=·) w av (.slice (some (gf,0)) fs.length fc) ⟨aX,fs.map FG.f⟩:=by
 have e1:=h.lv;have e2:=h.l1;refine⟨(h.arr.fB (iZ h.la)).weak (λb hb=>(by omega:W.heap.size<=b)) i20, ?_⟩;exact(h.fns.mono (show W.heap.size<=cb+1 by omega)).fgs (iZ h.lf) λq hq=>(h.vU q hq).weak λb hb=>by have:=hb.1.lo;omega
theorem WX.px' (h:WX W vg cb gf pb fb xb cf top w av fc aX fs f x):PX (W.heap.size+1<=·) w av (.slice (some (gf,0)) fs.length fc) ⟨aX,fs.map FG.f⟩:=by
 have e1:=h.lv;have e2:=h.l1;refine⟨(h.arr.fB (iZ h.la)).weak (λb hb=>(by omega:W.heap.size+1<=b)) i20, ?_⟩;exact(h.fns.mono (show W.heap.size+1<=cb+1 by omega)).fgs (iZ h.lf) λq hq=>(h.vU q hq).weak λb hb=>by have:=hb.1.lo;omega
theorem WX.Ui (h:WX W vg cb gf pb fb xb cf top w av fc aX fs f x) {g:Nat} (hr:Row w g 54 (ke x)) (hg:KW W cb gf pb fb xb av.ownBlock g):SX (KW W cb gf pb fb xb av.ownBlock) w (.slice (some (g,0)) 1 1) [x.s]:=by
 obtain⟨d1,h1⟩:=h.xp.t;obtain⟨d2,h2⟩:=h.xp.e;refine⟨max d1 d2+1,aP.one hr hg rfl ?_⟩;exact⟨rfl,rfl,h.xp.a,h1.weak (λ_ h=>h) (λ_ _ h'=>RS.le (Nat.le_max_left _ _) h'),h2.weak (λ_ h=>h) (λ_ _ h'=>RS.le (Nat.le_max_right _ _) h')⟩
theorem WX.Wt {g1 g2:Nat} {e:LE} {ya:Option Addr} {yc:Nat} (h:WX W vg cb gf pb fb xb cf top w av fc aX fs f x) (h1:Row w g1 31 (kB ⟨e,ya,yc⟩)) (h2:Row w g2 54 (ke x)) (hex:EX (KW W cb gf pb fb xb av.ownBlock) w (.slice ya e.args.length yc) e)
  (k1:KW W cb gf pb fb xb av.ownBlock g1) (k2:KW W cb gf pb fb xb av.ownBlock g2) (sI:lH e):
  WX W vg cb gf pb fb xb cf top (w.setRow xb #[I 3,S [], .slice (some (g1,0)) 1 1, .slice none 0 0, .slice (some (g2,0)) 1 1]) av fc aX fs f ⟨.mk 3 [] [e] [] [x.s],some (g1,0),1,none,0,some (g2,0),1⟩:=by
 refine h.O7 (.inl rfl) ⟨rfl,rfl,rfl,ay _,λ_ _ _=>rfl⟩ aJ bJ (setRow_heap _ _ _ _ _ _ h.rx) ⟨?_,SX.nil _ _, ?_⟩ (vV.of fH.nil (λy hy=>by obtain rfl:=ai hy;exact sI) aJ (λy hy=>by obtain rfl:=ai hy;exact h.nx))
 ·obtain⟨d,hd⟩:=hex;refine EX.grown ⟨d+1, ?_⟩ bJ (λr e hk=>hk.x (Option.some.inj e).symm);refine aP.one (R:=RE (d+1) (KW W cb gf pb fb xb av.ownBlock)) h1 k1 rfl ?_;exact⟨rfl,rfl,rfl,rfl,hd⟩
 ·exact SX.grown (h.Ui h2 k2) bJ (λr e hk=>hk.x (Option.some.inj e).symm)
theorem WX.Wu {g1 g2:Nat} {e:LE} {ya:Option Addr} {yc:Nat} (h:WX W vg cb gf pb fb xb cf top w av fc aX fs f x) (h1:Row w g1 31 (kB ⟨e,ya,yc⟩)) (h2:Row w g2 54 (ke x)) (hex:EX (KW W cb gf pb fb xb av.ownBlock) w (.slice ya e.args.length yc) e)
  (k1:KW W cb gf pb fb xb av.ownBlock g1) (k2:KW W cb gf pb fb xb av.ownBlock g2) (sI:lH e):
  WX W vg cb gf pb fb xb cf top (w.setRow xb #[I 4,S [], .slice (some (g1,0)) 1 1, .slice (some (g2,0)) 1 1, .slice none 0 0]) av fc aX fs f ⟨.mk 4 [] [e] [x.s] [],some (g1,0),1,some (g2,0),1,none,0⟩:=by
 refine h.O7 (.inl rfl) ⟨rfl,rfl,rfl,ay _,λ_ _ _=>rfl⟩ aJ bJ (setRow_heap _ _ _ _ _ _ h.rx) ⟨?_, ?_,SX.nil _ _⟩ (vV.of fH.nil (λy hy=>by obtain rfl:=ai hy;exact sI) (λy hy=>by obtain rfl:=ai hy;exact h.nx) aJ)
 ·obtain⟨d,hd⟩:=hex;refine EX.grown ⟨d+1, ?_⟩ bJ (λr e hk=>hk.x (Option.some.inj e).symm);refine aP.one (R:=RE (d+1) (KW W cb gf pb fb xb av.ownBlock)) h1 k1 rfl ?_;exact⟨rfl,rfl,rfl,rfl,hd⟩
 ·exact SX.grown (h.Ui h2 k2) bJ (λr e hk=>hk.x (Option.some.inj e).symm)
theorem WX.Zu {wd w1 w2 w3:World} {g2 base d1 d2:Nat} {u1 u2:Value} {n1 n2:List Value} (h:WX W vg cb gf pb fb xb cf top wd av fc aX fs f x)
  (gV:∀i y,f.f.body[i]? =some y->∃C:Nat->Value,RS d1 (λb=>(KW W cb gf pb fb xb av.ownBlock b/\b<top)/\b<wd.heap.size) w1 C y/\∀j,j<5->n1[i*5+j]? =some (C j)) (g12:w1.grownBy w2 none)
  (eD:∀i y,[x.s][i]? =some y->∃C:Nat->Value,RS d2 (λb=>KW W cb gf pb fb xb av.ownBlock b/\(b<wd.heap.size\/b=g2)) w2 C y/\∀j,j<5->n2[i*5+j]? =some (C j)) (g23:w2.grownBy w3 u1.ownBlock)
  (nY:n1.length=f.f.body.length*5) (jh:w3.ownsRow base 54 5 u2 (0+f.f.body.length+ [x.s].length) ([]++n1++n2)) (gM:∀r,u1.ownBlock=some r->wd.heap.size<=r/\r≠g2) (hb:wd.heap.size<=base) (hg2:g2<w3.heap.size) (hz:wd.heap.size<=w3.heap.size) (hbl:f.f.body.length<=4):
  SX (λb=>KW W cb gf pb fb xb av.ownBlock b/\b<max top w3) w3 u2 (f.f.body++ [x.s]):=by
 refine aja (d1:=d1) (d2:=d2) (n1:=n1) (n2:=n2) (base:=base) (by rw[List.nil_append,Nat.zero_add]at jh;exact jh) nY (λi y hy=> ?_) (λi y hy=> ?_) (by simp only[aq,au];omega) (λq hq=> ?_)
 ·obtain⟨C,hC,hj⟩:=gV i y hy;refine⟨C,RS.weak _ (λb hb=>⟨hb.1.1,aG⟩) (RS.grown _ g23 (λr e hb=> ?_) (RS.grown _ g12 aJ hC)),hj⟩;have:=gM r e;omega
 ·obtain⟨C,hC,hj⟩:=eD i y hy;refine⟨C,RS.weak _ (λb hb=>⟨hb.1,aG⟩) (RS.grown _ g23 (λr e hb=> ?_) hC),hj⟩;have h1:=gM r e;omega
 ·have hk:=cO jh q hq;exact⟨h.new aG,aG⟩
theorem WX.od (h:WX W vg cb gf pb fb xb cf top w av fc aX fs f x):xG ⟨aX,fs.map FG.f⟩:=by
 refine⟨h.nA,λq hq=> ?_, ?_⟩
 ·obtain⟨p,hp,rfl⟩:=List.mem_map.1 hq;exact h.nF p hp
 ·show aX.length+(fs.map FG.f).length<=1000;rw[aC];have:=h.la;have:=h.lf;omega
end
end
end Go.Proofs.YtjgbkdbkachciaaGreatDoor
