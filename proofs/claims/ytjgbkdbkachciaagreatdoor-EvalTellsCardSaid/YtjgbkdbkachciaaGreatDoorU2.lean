import Derived.Test.YtjgbkdbkachciaaGreatDoorT7
import Derived.Deep.MidRow
set_option linter.all false
namespace Go.Proofs.YtjgbkdbkachciaaGreatDoor
set_option maxRecDepth 100000
set_option maxHeartbeats 16000000
section
open Go.RowKit Go.Shelf
attribute [local go_sem] Oper.semAt_some
def G1:Array Value->Nat->List Value->Array Value
 |c,_,[]=>c
 |c,o,v::r=>G1 (c.setIfInBounds o v) (o+1) r
theorem Zc:∀(vs:List Value) (c:Array Value) (o:Nat),(G1 c o vs).size=c.size
 | [],_,_=>rfl
 |v::r,c,o=>by unfold G1;rw[Zc r];simp
theorem Zx:∀(vs:List Value) (c:Array Value) (o m:Nat),(G1 c o vs)[m]? =if o<=m/\m<o+vs.length/\m<c.size then vs[m - o]? else c[m]?
 | [],c,o,m=>by
  rw[if_neg ct];rfl
 |v::r,c,o,m=>by
  unfold G1
  rw[Zx r,Array.size_setIfInBounds]
  by_cases h1:o=m
  ·subst h1
   rw[if_neg aG]
   by_cases h2:o<c.size
   ·rw[if_pos ct];simp [h2]
   ·rw[if_neg aG];simp [h2]
  ·rw[Array.getElem?_setIfInBounds_ne h1]
   by_cases h2:o+1<=m/\m<o+1+r.length/\m<c.size
   ·rw[if_pos h2,if_pos (by simp only[aq];omega),show m - o=(m - (o+1))+1 by omega]
    simp
   ·rw[if_neg h2,if_neg (by simp only[aq];omega)]
theorem afm {W:World} {g o:Nat} {cur:Array Value} {t:TypeId} {fr:Nat×Nat} (h:W.heap[g]? =some (.cells cur t fr)) (v:Value):(W.setCell (g,o) v).heap[g]? =some (.cells (cur.setIfInBounds o v) t fr):=by
 obtain⟨hlt,hk⟩:=aD h;show(W.heap.modify g _)[g]? =_;rw[Array.getElem?_eq_getElem (by rw[Array.size_modify];exact hlt),Array.getElem_modify_self,hk];simp
theorem W8 {g:Nat} {t:TypeId} {fr:Nat×Nat}:∀(vs:List Value) {W:World} {o:Nat} {cur:Array Value},W.heap[g]? =some (.cells cur t fr)->(W.setCells g o vs).heap[g]? =some (.cells (G1 cur o vs) t fr)
 | [],_,_,_,h=>h
 |v::r,_W,_o,_cur,h=>W8 r (afm h v)
theorem WR {g:Nat}:∀(vs:List Value) (W:World) (o:Nat),W.grownBy (W.setCells g o vs) (some g)
 | [],W,_=>World.grownBy.refl W _
 |v::r,W,o=>(bO W g o v).trans (WR r _ _)
theorem a_.set {α:Type} {k e:Nat} {enc:α->List Value} {W:World} {base g cap:Nat} {l:List α} (h:a_ k e enc W base (.slice (some (g,0)) l.length cap) l) (hk:∀x,(enc x).length=k) (yF:0<k) {i:Nat} (hi:i<l.length) (y:α):
  a_ k e enc (W.setCells g (i*k) (enc y)) base (.slice (some (g,0)) l.length cap) (l.set i y):=by
 rcases h.2 with⟨h0,_⟩|⟨g',cap',cur,hv,hb,hg,hc,hm,hs,ht⟩
 ·cases h0
 ·obtain⟨rfl,rfl⟩:g=g'/\cap=cap':=by simpa using hv
  refine⟨Re hk _, .inr ⟨g,cap,G1 cur (i*k) (enc y),by rw[List.length_set],hb,W8 _ hg,by rw[List.length_set];exact hc,hm,by rw[Zc];exact hs, ?_⟩⟩;rw[List.length_set];refine List.ext_getElem? λm=> ?_;rw[List.getElem?_take];have hfl:=Re hk (l.set i y);rw[List.length_set]at hfl;by_cases G0:m<l.length*k
  ·rw[if_pos G0];have I1:m/k*k+m%k=m:=by rw[Nat.mul_comm];exact Nat.div_add_mod m k
   have hmk:m%k<k:=Nat.mod_lt _ yF;have hq:m/k<l.length:=(Nat.div_lt_iff_lt_mul yF).2 G0;have h1:=NT hk (l.set i y) (m/k) (m%k) hmk;have h2:=NT hk l (m/k) (m%k) hmk;rw[I1]at h1 h2;rw[h1];have hcs:m<cur.size:=by
    have:l.length*k<=cap*k:=Nat.mul_le_mul_right k hc;omega
   rw[Array.getElem?_toList,Zx,hk];by_cases Ju:m/k=i
   ·rw[Ju,List.getElem?_set_self hi,if_pos ⟨by rw[Ju]at I1;omega,by rw[Ju]at I1;omega,hcs⟩];simp only[Option.bind_some]
    congr 1
    rw[Ju]at I1;omega
   ·rw[List.getElem?_set_ne (λe=>Ju e.symm),<-h2,if_neg ?_,<-ht,List.getElem?_take,if_pos G0,Array.getElem?_toList];intro ⟨h3,h4,_⟩;apply Ju;have h5:(m/k)<i+1:=(Nat.div_lt_iff_lt_mul yF).2 (by rw[Nat.succ_mul];omega);have h6:i<=m/k:=(Nat.le_div_iff_mul_le yF).2 aG;omega
  ·rw[if_neg G0,List.getElem?_eq_none aG]
structure EA where
 e:LE
 a:Option Addr
 c:Nat
abbrev EA.av (p:EA):Value:= .slice p.a p.e.args.length p.c
def kB (p:EA):List Value:= [I p.e.kind,I p.e.op,I p.e.n,S p.e.name,p.av]
theorem v_ (p:EA):(kB p).length=5:=rfl
theorem E6 (p:EA):∀u∈kB p,u.oneCell'=true:=by intro u hu;simp [kB]at hu;rcases hu with rfl|rfl|rfl|rfl|rfl<;>rfl
theorem DD:oZ 29 31 5 64:=oZ.mk' (z:= .agg #[.int .i64 0, .int .i64 0, .int .i64 0, .string ByteArray.empty, .slice none 0 0]) Tryz.underlying29 aL rfl aQ
theorem ahT {l:List EA} {P:Nat->EA->Prop} (hs:∀{d d':Nat} {x:EA},d<=d'->P d x->P d' x) (h:∀x∈l,∃d,P d x):∃d,∀x∈l,P d x:=by
 induction l with
 |nil=>exact⟨0,aJ⟩
 |cons y l ih=>
  obtain⟨d1,h1⟩:=ih λx hx=>h x (List.mem_cons_of_mem _ hx);obtain⟨d2,h2⟩:=h y (List.mem_cons_self ..);refine⟨max d1 d2,λx hx=> ?_⟩;rcases List.mem_cons.1 hx with rfl|hx
  ·exact hs (Nat.le_max_right _ _) h2
  ·exact hs (Nat.le_max_left _ _) (h1 x hx)
theorem a_.exprs {w:World} {base:Nat} {v:Value} {l:List EA} {e:LE} (h:a_ 5 31 kB w base v l) (hl:l.length<=1000000000) (he:e.args=l.map EA.e) (hA:∀p∈l,EX (base<=·) w p.av p.e):EX (base<=·) w v e:=by
 obtain⟨d,hd⟩:=ahT (P:=λd p=>aP (base<=·) 5 (RE d (base<=·)) w p.av p.e.args) (λh k=>k.weak (λ_ h=>h) (λ_ _ h'=>RE.le h h')) hA;refine⟨d+1, ?_⟩;rw[he];exact h.l7 EA.e v_ hl λp hp=>⟨rfl,rfl,rfl,rfl,hd p hp⟩
def oq (wr:World) (base:Nat) (v:Value) (done:List EA):Prop:=a_ 5 31 kB wr base v done/\∀p∈done,EX (λb=>base<=b/\b<wr.heap.size/\v.ownBlock≠some b) wr p.av p.e
theorem oq.nil (w:World) (base:Nat):oq w base (.slice none 0 0) []:=⟨a_.nil,aJ⟩
theorem oq.grown {w w':World} {base:Nat} {v:Value} {done:List EA} {row:Option Nat} (h:oq w base v done) (hg:w.grownBy w' row) (hr:∀r,row=some r->r<base):oq w' base v done:=by
 have hsz:=hg.size;refine⟨j0 h.1 hg ?_,λp hp=> ?_⟩
 ·cases hv:v.ownBlock with
  |none=>exact .inl rfl
  |some k=>
   right;intro e;have:=hr k e.symm;have:=(cO h.1 k hv).1;omega
 ·exact((h.2 p hp).grown hg (λr e hb=>by have:=hr r e;omega)).weak λb hb=>⟨hb.1,aG,hb.2.2⟩
theorem oq.app {w1 w2 w3:World} {base g:Nat} {v v':Value} {done:List EA} {row:Option Nat} {y:EA} {o:Obj} (h:oq w1 base v done) (hg:w1.grownBy w2 row) (hr:∀r,row=some r->r<base) (hx:EX (w1.heap.size<=·) w2 y.av y.e) (hb:base<=w1.heap.size)
  (ho:a_ 5 31 kB w3 base v' (done++ [y])) (hg3:(w2.alloc o).grownBy w3 v.ownBlock) (hv':v'.ownBlock=some g) (hat:v.ownBlock=some g\/g=(w2.alloc o).heap.size):oq w3 base v' (done++ [y]):=by
 have hs2:=hg.size;have hz2:(w2.alloc o).heap.size=w2.heap.size+1:=aH;have hz3:=hg3.size;have h2:=h.grown hg hr;have hnb:∀b,base<=b->b<w2.heap.size->v.ownBlock≠some b->base<=b/\b<w3.heap.size/\v'.ownBlock≠some b:=by
  intro b h1 h2 h3;refine⟨h1,aG,λe=> ?_⟩;rw[hv']at e;obtain rfl:=Option.some.inj e;rcases hat with h4|h4
  ·exact h3 h4
  ·omega
 refine⟨ho,λp hp=> ?_⟩;rcases List.mem_append.1 hp with hp|hp
 ·exact((h2.2 p hp).alloc.grown hg3 (λr e hb=>hb.2.2 e)).weak λb hb=>hnb b hb.1 hb.2.1 hb.2.2
 ·obtain rfl:=ai hp;have h5:∀r,v.ownBlock=some r->r<w1.heap.size:=λr e=>(cO h.1 r e).2;exact((hx.size.alloc).grown hg3 (λr e hb=>by have:=h5 r e;omega)).weak λb hb=>hnb b aG hb.2 (λe=>by have:=h5 b e;omega)
theorem oq.read {w:World} {base:Nat} {v:Value} {done:List EA} {e:LE} (h:oq w base v done) (hl:done.length<=1000000000) (he:e.args=done.map EA.e):EX (base<=·) w v e:=
 h.1.exprs hl he λp hp=>(h.2 p hp).weak λ_ hb=>hb.1
theorem aO {n:Nat} {t:TypeId} {w wd:World} {cs:List Value} (hr:Row w n t cs) (hh:wd.heap=w.heap) (j:Nat):wd.cell? (n,j)=cs[j]? :=by
 have:Row wd n t cs:=by unfold Row at*;rw[hh];exact hr
 exact this.cell j
theorem RS.size:∀(d:Nat) {B:Nat->Prop} {w:World} {C:Nat->Value} {s:LS},RS d B w C s->RS d (λb=>B b/\b<w.heap.size) w C s
 |0,_,_,_,_,h=>h
 |d+1,_,_,_,_,⟨h0,h1,h2,h3,h4⟩=>⟨h0,h1,h2.size,h3.size aG λ_ _ h=>RS.size d h,h4.size aG λ_ _ h=>RS.size d h⟩
theorem SX.size {B:Nat->Prop} {w:World} {v:Value} {l:List LS} (h:SX B w v l):SX (λb=>B b/\b<w.heap.size) w v l:=by
 obtain⟨d,h⟩:=h;exact⟨d,h.size aG λ_ _ h=>RS.size d h⟩
abbrev AX (B:Nat->Prop) (W:World) (v:Value) (l:List LE):Prop:=EX B W v (.mk 0 0 0 [] l)
structure SD where
 s:LS
 a:Option Addr
 ac:Nat
 t:Option Addr
 tc:Nat
 e:Option Addr
 ec:Nat
abbrev SD.av (p:SD):Value:= .slice p.a p.s.args.length p.ac
abbrev SD.tv (p:SD):Value:= .slice p.t p.s.thn.length p.tc
abbrev SD.ev (p:SD):Value:= .slice p.e p.s.els.length p.ec
def ke (p:SD):List Value:= [I p.s.kind,S p.s.name,p.av,p.tv,p.ev]
theorem Y1 (p:SD):(ke p).length=5:=rfl
theorem ahB (p:SD):∀u∈ke p,u.oneCell'=true:=by intro u hu;simp [ke]at hu;rcases hu with rfl|rfl|rfl|rfl|rfl<;>rfl
structure pU (B:Nat->Prop) (w:World) (p:SD):Prop where
 a:AX B w p.av p.s.args
 t:SX B w p.tv p.s.thn
 e:SX B w p.ev p.s.els
theorem pU.grown {B:Nat->Prop} {w w':World} {row:Option Nat} {p:SD} (h:pU B w p) (hg:w.grownBy w' row) (hr:∀r,row=some r-> ¬B r):pU B w' p:=
 ⟨EX.grown h.a hg hr,SX.grown h.t hg hr,SX.grown h.e hg hr⟩
theorem pU.weak {B B':Nat->Prop} {w:World} {p:SD} (h:pU B w p) (hB:∀b,B b->B' b):pU B' w p:=⟨EX.weak h.a hB,SX.weak h.t hB,SX.weak h.e hB⟩
theorem pU.size {B:Nat->Prop} {w:World} {p:SD} (h:pU B w p):pU (λb=>B b/\b<w.heap.size) w p:=⟨EX.size h.a,SX.size h.t,SX.size h.e⟩
theorem ahU {l:List SD} {P:Nat->SD->Prop} (hs:∀{d d':Nat} {x:SD},d<=d'->P d x->P d' x) (h:∀x∈l,∃d,P d x):∃d,∀x∈l,P d x:=by
 induction l with
 |nil=>exact⟨0,aJ⟩
 |cons y l ih=>
  obtain⟨d1,h1⟩:=ih λx hx=>h x (List.mem_cons_of_mem _ hx);obtain⟨d2,h2⟩:=h y (List.mem_cons_self ..);refine⟨max d1 d2,λx hx=> ?_⟩;rcases List.mem_cons.1 hx with rfl|hx
  ·exact hs (Nat.le_max_right _ _) h2
  ·exact hs (Nat.le_max_left _ _) (h1 x hx)
theorem a_.ajd {w:World} {base:Nat} {v:Value} {l:List SD} (h:a_ 5 54 ke w base v l) (hl:l.length<=1000000000) (hA:∀p∈l,pU (base<=·) w p):SX (base<=·) w v (l.map SD.s):=by
 obtain⟨d,hd⟩:=ahU (P:=λd p=>aP (base<=·) 5 (RS d (base<=·)) w p.tv p.s.thn/\aP (base<=·) 5 (RS d (base<=·)) w p.ev p.s.els)
  (λh k=>⟨k.1.weak (λ_ h=>h) (λ_ _ h'=>RS.le h h'),k.2.weak (λ_ h=>h) (λ_ _ h'=>RS.le h h')⟩) (λp hp=>by
   obtain⟨d1,h1⟩:=(hA p hp).t;obtain⟨d2,h2⟩:=(hA p hp).e;exact⟨max d1 d2,h1.weak (λ_ h=>h) (λ_ _ h'=>RS.le (Nat.le_max_left _ _) h'),h2.weak (λ_ h=>h) (λ_ _ h'=>RS.le (Nat.le_max_right _ _) h')⟩)
 refine⟨d+1, ?_⟩;exact h.l7 SD.s Y1 hl λp hp=>⟨rfl,rfl,(hA p hp).a,(hd p hp).1,(hd p hp).2⟩
def xo (wr:World) (base:Nat) (v:Value) (done:List SD):Prop:=a_ 5 54 ke wr base v done/\∀p∈done,pU (λb=>base<=b/\b<wr.heap.size/\v.ownBlock≠some b) wr p
theorem xo.nil (w:World) (base:Nat):xo w base (.slice none 0 0) []:=⟨a_.nil,aJ⟩
theorem xo.grown {w w':World} {base:Nat} {v:Value} {done:List SD} {row:Option Nat} (h:xo w base v done) (hg:w.grownBy w' row) (hr:∀r,row=some r->r<base):xo w' base v done:=by
 have hsz:=hg.size;refine⟨j0 h.1 hg ?_,λp hp=> ?_⟩
 ·cases hv:v.ownBlock with
  |none=>exact .inl rfl
  |some k=>
   right;intro e;have:=hr k e.symm;have:=(cO h.1 k hv).1;omega
 ·exact((h.2 p hp).grown hg (λr e hb=>by have:=hr r e;omega)).weak λb hb=>⟨hb.1,aG,hb.2.2⟩
theorem xo.app {w1 w2 w3:World} {base g:Nat} {v v':Value} {done:List SD} {row:Option Nat} {y:SD} {o:Obj} (h:xo w1 base v done) (hg:w1.grownBy w2 row) (hr:∀r,row=some r->r<base) (hx:pU (w1.heap.size<=·) w2 y) (hb:base<=w1.heap.size)
  (ho:a_ 5 54 ke w3 base v' (done++ [y])) (hg3:(w2.alloc o).grownBy w3 v.ownBlock) (hv':v'.ownBlock=some g) (hat:v.ownBlock=some g\/g=(w2.alloc o).heap.size):xo w3 base v' (done++ [y]):=by
 have hs2:=hg.size;have hz2:(w2.alloc o).heap.size=w2.heap.size+1:=aH;have hz3:=hg3.size;have h2:=h.grown hg hr;have hnb:∀b,base<=b->b<w2.heap.size->v.ownBlock≠some b->base<=b/\b<w3.heap.size/\v'.ownBlock≠some b:=by
  intro b h1 h2 h3;refine⟨h1,aG,λe=> ?_⟩;rw[hv']at e;obtain rfl:=Option.some.inj e;rcases hat with h4|h4
  ·exact h3 h4
  ·omega
 have ha:∀{B:Nat->Prop} {p:SD},pU B w2 p->pU B (w2.alloc o) p:=λh=>h.grown iD aJ;refine⟨ho,λp hp=> ?_⟩;rcases List.mem_append.1 hp with hp|hp
 ·exact((ha (h2.2 p hp)).grown hg3 (λr e hb=>hb.2.2 e)).weak λb hb=>hnb b hb.1 hb.2.1 hb.2.2
 ·obtain rfl:=ai hp;have h5:∀r,v.ownBlock=some r->r<w1.heap.size:=λr e=>(cO h.1 r e).2;exact((ha hx.size).grown hg3 (λr e hb=>by have:=h5 r e;omega)).weak λb hb=>hnb b aG hb.2 (λe=>by have:=h5 b e;omega)
theorem xo.read {w:World} {base:Nat} {v:Value} {done:List SD} (h:xo w base v done) (hl:done.length<=1000000000):SX (base<=·) w v (done.map SD.s):=
 h.1.ajd hl λp hp=>(h.2 p hp).weak λ_ hb=>hb.1
theorem wu:oZ 49 9 1 16:=oZ.mk' (z:= .string ByteArray.empty) Tryz.underlying49 aL rfl aQ
def fR (x:aK):List Value:= [S x]
theorem qC (x:aK):(fR x).length=1:=rfl
theorem Ho (x:aK):∀u∈fR x,u.oneCell'=true:=by intro u hu;simp [fR]at hu;subst hu;rfl
def sL (x:LA):List Value:= [S x.name,I x.size]
theorem Hj (x:LA):(sL x).length=2:=rfl
theorem JM (x:LA):∀u∈sL x,u.oneCell'=true:=by intro u hu;simp [sL]at hu;rcases hu with rfl|rfl<;>rfl
theorem Kf:oZ 24 68 2 24:=oZ.mk' (z:= .agg #[.string ByteArray.empty, .int .i64 0]) Tryz.underlying24 aL rfl aQ
theorem a_.fB {w:World} {base:Nat} {v:Value} {l:List LA} (h:a_ 2 68 sL w base v l) (hl:l.length<=1000000000):aP (base<=·) 2 wO w v l:=by
 have:=h.l7 (R:=wO) (λx=>x) Hj hl λx _=>⟨rfl,rfl⟩;simpa using this
theorem a_.strs {w:World} {base:Nat} {v:Value} {l:List aK} (h:a_ 1 9 fR w base v l) (hl:l.length<=1000000000):aP (base<=·) 1 dc w v l:=by
 have:=h.l7 (R:=dc) (λx=>x) qC hl λx _=>rfl;simpa using this
structure FG where
 f:LF
 pa:Option Addr
 pc:Nat
 la:Option Addr
 lc:Nat
 ba:Option Addr
 bc:Nat
abbrev FG.pv (p:FG):Value:= .slice p.pa p.f.params.length p.pc
abbrev FG.lv (p:FG):Value:= .slice p.la p.f.locals.length p.lc
abbrev FG.bv (p:FG):Value:= .slice p.ba p.f.body.length p.bc
def qG (p:FG):List Value:= [S p.f.name,p.pv,p.lv,p.bv]
theorem Q_ (p:FG):(qG p).length=4:=rfl
structure qH (B:Nat->Prop) (w:World) (pv lv bv:Value) (f:LF):Prop where
 fp:aP B 1 dc w pv f.params
 fl:aP B 1 dc w lv f.locals
 fb:SX B w bv f.body
theorem qH.grown {B:Nat->Prop} {w w':World} {row:Option Nat} {pv lv bv:Value} {f:LF} (h:qH B w pv lv bv f) (hg:w.grownBy w' row) (hr:∀r,row=some r-> ¬B r):qH B w' pv lv bv f:=
 ⟨h.fp.grown hg hr i20,h.fl.grown hg hr i20,SX.grown h.fb hg hr⟩
theorem qH.weak {B B':Nat->Prop} {w:World} {pv lv bv:Value} {f:LF} (h:qH B w pv lv bv f) (hB:∀b,B b->B' b):qH B' w pv lv bv f:=⟨h.fp.weak hB i20,h.fl.weak hB i20,SX.weak h.fb hB⟩
theorem qH.size {B:Nat->Prop} {w:World} {pv lv bv:Value} {f:LF} (h:qH B w pv lv bv f):qH (λb=>B b/\b<w.heap.size) w pv lv bv f:=⟨h.fp.size aG i20,h.fl.size aG i20,SX.size h.fb⟩
theorem qH.slice {B:Nat->Prop} {w:World} {pv lv bv:Value} {f:LF} (h:qH B w pv lv bv f):∃p:FG,p.f=f/\pv=p.pv/\lv=p.lv/\bv=p.bv:=by
 obtain⟨⟨a,c,h1,_⟩,⟨a',c',h2,_⟩,h3⟩:=h;obtain⟨a'',c'',h3⟩:=h3.slice;exact⟨⟨f,a,c,a',c',a'',c''⟩,rfl,h1,h2,h3⟩
theorem a_.fgs {w:World} {base:Nat} {v:Value} {l:List FG} (h:a_ 4 52 qG w base v l) (hl:l.length<=1000000000) (hA:∀p∈l,qH (base<=·) w p.pv p.lv p.bv p.f):aP (base<=·) 4 (RF (base<=·)) w v (l.map FG.f):=
 h.l7 FG.f Q_ hl λp hp=>⟨rfl,(hA p hp).fp,(hA p hp).fl,(hA p hp).fb⟩
theorem a_.ajc {α:Type} {k e:Nat} {enc:α->List Value} {w:World} {base g n cap:Nat} {l:List α} (h:a_ k e enc w base (.slice (some (g,0)) n cap) l) (hk:∀x,(enc x).length=k) {i:Nat} (hi:i<l.length):w.there g (i*k) k:=λj hj=>by
 obtain⟨g2,c2,hv2,_,hcl⟩:=h.cell hk hi
 obtain rfl:g2=g:=by simp at hv2;exact hv2.1.symm
 have h1:=hcl j hj
 refine⟨?_,h1.2⟩
 rw[h1.1,ah (by rw[hk];exact hj)]
 rfl
theorem SX.nil (B:Nat->Prop) (W:World):SX B W (.slice none 0 0) []:=⟨0,aP.nil _ _ _ _⟩
structure ao1 {α:Type} (k:Nat) (arg:(Nat->Value)->Value) (R:World->(Nat->Value)->α->Prop) (w:World) (iJ:Nat) (lg:Array Value) (l:List α):Prop where
 eg:∀args w,(callFunc iJ args).run Tryz.prog w= .ok (.enter iJ args) w
 call:∀x∈l,∀W C,Below w.heap.size w W->R W C x->Calls Tryz.prog iJ (#[arg C]++lg) W λe w'=>e= .returned (.bool false)/\Below W.heap.size W w'
abbrev sO (C:Nat->Value):Value:= .agg #[C 0,C 1,C 2,C 3,C 4]
abbrev Kl (C:Nat->Value):Value:=C 0
theorem aP.below {α:Type} {B:Nat->Prop} {k:Nat} {R:World->(Nat->Value)->α->Prop} {w w':World} (hb:Below w w w') (hR:∀C x,R w C x->R w' C x) {v:Value} {l:List α} (h:aP B k R w v l):aP B k R w' v l:=h.grown (bX hb none) aJ hR
theorem aP.at {α:Type} {B:Nat->Prop} {k:Nat} {R:World->(Nat->Value)->α->Prop} {w:World} {a:Option Addr} {c n:Nat} {l:List α} (h:aP B k R w (.slice a n c) l) {i:Nat} (hi:i<l.length):∃b o C,a=some ⟨b,o,none⟩/\B b/\(∀j,j<k->w.cell? ⟨b,o+i*k+j,none⟩=some (C j))/\R w C l[i]:=by
 obtain⟨a',c',h1,h2,h3⟩:=h;obtain⟨rfl,rfl,rfl⟩:a=a'/\n=l.length/\c=c':=by simpa using h1
 rcases h3 with rfl|⟨b,o,rfl,hb,h4⟩
 ·exact absurd hi aH
 ·obtain⟨C,h5,h6⟩:=h4 i l[i] (ah hi);exact⟨b,o,C,rfl,hb,h5,h6⟩
theorem tX {tmps:Array Value} {w:World} {g:Nat} {cs:Array Value} (h2:tmps.getD 2 undef= .pointer (some (g,0))) (hr:w.heap[g]? =some (.cells cs 31 (0,0))) (hs:(Tryz.prog.info? 31).map (·.size)=some cs.size):
  (results Tryz.f102 tmps).run Tryz.prog w= .ok (.tuple #[.agg cs,tmps.getD 3 undef,tmps.getD 4 undef]) w:=by
 have h2':tmps[2]?.getD undef= .pointer (some (g,0)):=by simpa using h2
 have h:=run_loadVar_row (P:=Tryz.prog) w g 31 31 cs (0,0) _ hr Tryz.underlying31 rfl hs;simp [results,h2',asAddr,h]
theorem cQ {n:Nat} {w wd:World} {cs:List Value} (hr:Row w n 31 cs) (hh:wd.heap=w.heap) (j:Nat):wd.cell? (n,j)=cs[j]? :=by
 have:Row wd n 31 cs:=by unfold Row at*;rw[hh];exact hr
 exact this.cell j
theorem ahp (op n:Int) (nm:aK) (av:Value) (h1:0<=n) (w:World):
  CR 102 #[.agg #[I 1,I op,I n,S nm,av]] w (.tuple #[.agg #[I 1,I 0,I n,S [], .slice none 0 0],I 0, .bool true]):=by
 have h1b:decide (0<=n)=true:=by simp [h1]
 go_enter Tryz.func102,Tryz.ntmps102;go_upto_region 2 with(refine sr 31 (.tmp 2) (.tmp 7) (w.heap.size+1) eZ ha0 ?_)
 obtain⟨w1,hw1⟩:∃w1,w1=((w.alloc (.cells #[I 1,I op,I n,S nm,av] 31)).alloc (.cells eZ 31)).setRow (w,1) #[I 1,I 0,I 0,S [], .slice none 0 0]:=⟨_,rfl⟩;have hb1:Below w w w1:=by rw[hw1];exact((cm w _).alloc aH _).grown bJ ct bh
 have hB:Row w1 w 31 [I 1,I op,I n,S nm,av]:=by rw[hw1];exact(setRow_other _ _ _ _ aG).trans (ho0 hn0)
 have hX:Row w1 (w,1) 31 [I 1,I 0,I 0,S [], .slice none 0 0]:=by rw[hw1];exact setRow_heap _ _ _ _ _ _ ha0
 rw[<-hw1];clear hw1;have b0:=hB.k0;have b2:=hB.k2;have x2:=hX.k2;have f2:=hX.frozen 2;have HB:=aF hB;have HX:=aF hX;have aI:=aF hb1;clear hB hX hb1;go_upto_region 5 with(fail)
 have hg2:=bO w1 (w,1) 2 (I n);have aY:=aF (HX.set 2 (I n));have aM:=bI HB hg2;have eY:=dF aI hg2;have⟨w2,hw2⟩:=xq (w1.setCell (w,1,2) (I n));rw[<-hw2]at aY aM eY|-;clear hw2 hg2 b0 b2 x2 f2;refine cC (λW=>W.cell? (w,2)=some (I n)/\W.cell? (w,1,0)=some (I 1)/\W.cell? (w,1,1)=some (I 0)/\W.cell? (w,1,2)=some (I n)/\W.cell? (w,1,3)=some (S [])/\W.cell? (w,1,4)=some (.slice none 0 0)) [0,0,0,0,1,0,0] (λwd hh=>⟨cQ aM hh 2,cQ aY hh 0,cQ aY hh 1,cQ aY hh 2,cQ aY hh 3,cQ aY hh 4⟩) λwd hh hgd hS=> ?_;have jo:=aY.kept hgd aH;have bN:=aF jo;have bE:=bI aM hgd;have fK:=dF eY hgd;clear hh hgd jo;refine dS ?_;go_wp2_with (refine sr 31 (.tmp 2) (.tmp 15) (w.heap.size+1) #[I 1,I 0,I n,S [], .slice none 0 0] bN.out ?_)
 have⟨w3,hw3⟩:=xq (wd.setRow (w,1) #[I 1,I 0,I n,S [], .slice none 0 0]);have hg3:wd.grownBy w3 (some (w,1)):=by rw[hw3];exact bJ
 have hx3:Row w3 (w,1) 31 [I 1,I 0,I n,S [], .slice none 0 0]:=by rw[hw3];exact setRow_heap _ _ _ _ _ _ bN.out
 have hb3:=bE.kept hg3 aH;have bk:=dF fK hg3;rw[<-hw3];clear hw3 hg3 hS;refine bw ⟨hb3.cell 2,hx3.cell 0,hx3.cell 1,hx3.cell 2,hx3.cell 3,hx3.cell 4⟩ λhS=> ?_;have bq:=aF hx3;clear hx3 hb3;refine dP ?_;go_wp2;refine bodyPost_ret (tX rfl bq aL) rfl ?_;exact⟨rfl,bk⟩
theorem af3 (n:Int) (nm:aK) (av:Value) (w:World):
  CR 102 #[.agg #[I 3,I 17,I n,S nm,av]] w (.tuple #[.agg #[I 3,I 17,I 0,S [], .slice none 0 0],I 1, .bool true]):=by
 go_enter Tryz.func102,Tryz.ntmps102;go_upto_region 2 with(refine sr 31 (.tmp 2) (.tmp 7) (w.heap.size+1) eZ ha0 ?_)
 obtain⟨w1,hw1⟩:∃w1,w1=((w.alloc (.cells #[I 3,I 17,I n,S nm,av] 31)).alloc (.cells eZ 31)).setRow (w,1) #[I 3,I 0,I 0,S [], .slice none 0 0]:=⟨_,rfl⟩;have hb1:Below w w w1:=by rw[hw1];exact((cm w _).alloc aH _).grown bJ ct bh
 have hB:Row w1 w 31 [I 3,I 17,I n,S nm,av]:=by rw[hw1];exact(setRow_other _ _ _ _ aG).trans (ho0 hn0)
 have hX:Row w1 (w,1) 31 [I 3,I 0,I 0,S [], .slice none 0 0]:=by rw[hw1];exact setRow_heap _ _ _ _ _ _ ha0
 rw[<-hw1];clear hw1;have b0:=hB.k0;have b1:=hB.k1;have x1:=hX.k1;have f1:=hX.frozen 1;have HB:=aF hB;have HX:=aF hX;have aI:=aF hb1;clear hB hX hb1;go_upto_region 11 with(fail)
 have hg2:=bO w1 (w,1) 1 (I 17);have aY:=aF (HX.set 1 (I 17));have aM:=bI HB hg2;have eY:=dF aI hg2;have⟨w2,hw2⟩:=xq (w1.setCell (w,1,1) (I 17));rw[<-hw2]at aY aM eY|-;clear hw2 hg2 b0 b1 x1 f1;refine cC (λW=>W.cell? (w,1)=some (I 17)/\W.cell? (w,1,0)=some (I 3)/\W.cell? (w,1,1)=some (I 17)/\W.cell? (w,1,2)=some (I 0)/\W.cell? (w,1,3)=some (S [])/\W.cell? (w,1,4)=some (.slice none 0 0)) [0,0,0,0,0,0,0,0,0,0,0,0,0,0,1,0,0] (λwd hh=>⟨cQ aM hh 1,cQ aY hh 0,cQ aY hh 1,cQ aY hh 2,cQ aY hh 3,cQ aY hh 4⟩) λwd hh hgd hS=> ?_;have jo:=aY.kept hgd aH;have bN:=aF jo;have bE:=bI aM hgd;have fK:=dF eY hgd;clear hh hgd jo;refine dS ?_;go_wp2_with (refine sr 31 (.tmp 2) (.tmp 33) (w.heap.size+1) #[I 3,I 17,I 0,S [], .slice none 0 0] bN.out ?_)
 have⟨w3,hw3⟩:=xq (wd.setRow (w,1) #[I 3,I 17,I 0,S [], .slice none 0 0]);have hg3:wd.grownBy w3 (some (w,1)):=by rw[hw3];exact bJ
 have hx3:Row w3 (w,1) 31 [I 3,I 17,I 0,S [], .slice none 0 0]:=by rw[hw3];exact setRow_heap _ _ _ _ _ _ bN.out
 have hb3:=bE.kept hg3 aH;have bk:=dF fK hg3;rw[<-hw3];clear hw3 hg3 hS;refine bw ⟨hb3.cell 1,hx3.cell 0,hx3.cell 1,hx3.cell 2,hx3.cell 3,hx3.cell 4⟩ λhS=> ?_;have bq:=aF hx3;clear hx3 hb3;refine dP ?_;go_wp2;refine bodyPost_ret (tX rfl bq aL) rfl ?_;exact⟨rfl,bk⟩
theorem af4 (n:Int) (nm:aK) (av:Value) (w:World):
  CR 102 #[.agg #[I 3,I 18,I n,S nm,av]] w (.tuple #[.agg #[I 3,I 18,I 0,S [], .slice none 0 0],I 1, .bool true]):=by
 go_enter Tryz.func102,Tryz.ntmps102;go_upto_region 2 with(refine sr 31 (.tmp 2) (.tmp 7) (w.heap.size+1) eZ ha0 ?_)
 obtain⟨w1,hw1⟩:∃w1,w1=((w.alloc (.cells #[I 3,I 18,I n,S nm,av] 31)).alloc (.cells eZ 31)).setRow (w,1) #[I 3,I 0,I 0,S [], .slice none 0 0]:=⟨_,rfl⟩;have hb1:Below w w w1:=by rw[hw1];exact((cm w _).alloc aH _).grown bJ ct bh
 have hB:Row w1 w 31 [I 3,I 18,I n,S nm,av]:=by rw[hw1];exact(setRow_other _ _ _ _ aG).trans (ho0 hn0)
 have hX:Row w1 (w,1) 31 [I 3,I 0,I 0,S [], .slice none 0 0]:=by rw[hw1];exact setRow_heap _ _ _ _ _ _ ha0
 rw[<-hw1];clear hw1;have b0:=hB.k0;have b1:=hB.k1;have x1:=hX.k1;have f1:=hX.frozen 1;have HB:=aF hB;have HX:=aF hX;have aI:=aF hb1;clear hB hX hb1;go_upto_region 11 with(fail)
 have hg2:=bO w1 (w,1) 1 (I 18);have aY:=aF (HX.set 1 (I 18));have aM:=bI HB hg2;have eY:=dF aI hg2;have⟨w2,hw2⟩:=xq (w1.setCell (w,1,1) (I 18));rw[<-hw2]at aY aM eY|-;clear hw2 hg2 b0 b1 x1 f1;refine cC (λW=>W.cell? (w,1)=some (I 18)/\W.cell? (w,1,0)=some (I 3)/\W.cell? (w,1,1)=some (I 18)/\W.cell? (w,1,2)=some (I 0)/\W.cell? (w,1,3)=some (S [])/\W.cell? (w,1,4)=some (.slice none 0 0)) [0,0,0,0,0,0,0,0,0,0,0,0,0,0,1,0,0] (λwd hh=>⟨cQ aM hh 1,cQ aY hh 0,cQ aY hh 1,cQ aY hh 2,cQ aY hh 3,cQ aY hh 4⟩) λwd hh hgd hS=> ?_;have jo:=aY.kept hgd aH;have bN:=aF jo;have bE:=bI aM hgd;have fK:=dF eY hgd;clear hh hgd jo;refine dS ?_;go_wp2_with (refine sr 31 (.tmp 2) (.tmp 33) (w.heap.size+1) #[I 3,I 18,I 0,S [], .slice none 0 0] bN.out ?_)
 have⟨w3,hw3⟩:=xq (wd.setRow (w,1) #[I 3,I 18,I 0,S [], .slice none 0 0]);have hg3:wd.grownBy w3 (some (w,1)):=by rw[hw3];exact bJ
 have hx3:Row w3 (w,1) 31 [I 3,I 18,I 0,S [], .slice none 0 0]:=by rw[hw3];exact setRow_heap _ _ _ _ _ _ bN.out
 have hb3:=bE.kept hg3 aH;have bk:=dF fK hg3;rw[<-hw3];clear hw3 hg3 hS;refine bw ⟨hb3.cell 1,hx3.cell 0,hx3.cell 1,hx3.cell 2,hx3.cell 3,hx3.cell 4⟩ λhS=> ?_;have bq:=aF hx3;clear hx3 hb3;refine dP ?_;go_wp2;refine bodyPost_ret (tX rfl bq aL) rfl ?_;exact⟨rfl,bk⟩
theorem af5 (n:Int) (nm:aK) (av:Value) (w:World):
  CR 102 #[.agg #[I 3,I 19,I n,S nm,av]] w (.tuple #[.agg #[I 3,I 19,I 0,S [], .slice none 0 0],I 1, .bool true]):=by
 go_enter Tryz.func102,Tryz.ntmps102;go_upto_region 2 with(refine sr 31 (.tmp 2) (.tmp 7) (w.heap.size+1) eZ ha0 ?_)
 obtain⟨w1,hw1⟩:∃w1,w1=((w.alloc (.cells #[I 3,I 19,I n,S nm,av] 31)).alloc (.cells eZ 31)).setRow (w,1) #[I 3,I 0,I 0,S [], .slice none 0 0]:=⟨_,rfl⟩;have hb1:Below w w w1:=by rw[hw1];exact((cm w _).alloc aH _).grown bJ ct bh
 have hB:Row w1 w 31 [I 3,I 19,I n,S nm,av]:=by rw[hw1];exact(setRow_other _ _ _ _ aG).trans (ho0 hn0)
 have hX:Row w1 (w,1) 31 [I 3,I 0,I 0,S [], .slice none 0 0]:=by rw[hw1];exact setRow_heap _ _ _ _ _ _ ha0
 rw[<-hw1];clear hw1;have b0:=hB.k0;have b1:=hB.k1;have x1:=hX.k1;have f1:=hX.frozen 1;have HB:=aF hB;have HX:=aF hX;have aI:=aF hb1;clear hB hX hb1;go_upto_region 11 with(fail)
 have hg2:=bO w1 (w,1) 1 (I 19);have aY:=aF (HX.set 1 (I 19));have aM:=bI HB hg2;have eY:=dF aI hg2;have⟨w2,hw2⟩:=xq (w1.setCell (w,1,1) (I 19));rw[<-hw2]at aY aM eY|-;clear hw2 hg2 b0 b1 x1 f1;refine cC (λW=>W.cell? (w,1)=some (I 19)/\W.cell? (w,1,0)=some (I 3)/\W.cell? (w,1,1)=some (I 19)/\W.cell? (w,1,2)=some (I 0)/\W.cell? (w,1,3)=some (S [])/\W.cell? (w,1,4)=some (.slice none 0 0)) [0,0,0,0,0,0,0,0,0,0,0,0,0,0,1,0,0] (λwd hh=>⟨cQ aM hh 1,cQ aY hh 0,cQ aY hh 1,cQ aY hh 2,cQ aY hh 3,cQ aY hh 4⟩) λwd hh hgd hS=> ?_;have jo:=aY.kept hgd aH;have bN:=aF jo;have bE:=bI aM hgd;have fK:=dF eY hgd;clear hh hgd jo;refine dS ?_;go_wp2_with (refine sr 31 (.tmp 2) (.tmp 33) (w.heap.size+1) #[I 3,I 19,I 0,S [], .slice none 0 0] bN.out ?_)
 have⟨w3,hw3⟩:=xq (wd.setRow (w,1) #[I 3,I 19,I 0,S [], .slice none 0 0]);have hg3:wd.grownBy w3 (some (w,1)):=by rw[hw3];exact bJ
 have hx3:Row w3 (w,1) 31 [I 3,I 19,I 0,S [], .slice none 0 0]:=by rw[hw3];exact setRow_heap _ _ _ _ _ _ bN.out
 have hb3:=bE.kept hg3 aH;have bk:=dF fK hg3;rw[<-hw3];clear hw3 hg3 hS;refine bw ⟨hb3.cell 1,hx3.cell 0,hx3.cell 1,hx3.cell 2,hx3.cell 3,hx3.cell 4⟩ λhS=> ?_;have bq:=aF hx3;clear hx3 hb3;refine dP ?_;go_wp2;refine bodyPost_ret (tX rfl bq aL) rfl ?_;exact⟨rfl,bk⟩
theorem ahq (op n:Int) (nm:aK) (av:Value) (ho:0<nT op) (w:World):
  CR 102 #[.agg #[I 4,I op,I n,S nm,av]] w (.tuple #[.agg #[I 4,I op,I 0,S [], .slice none 0 0],I 2, .bool true]):=by
 have⟨L,hL⟩:=xq (nT op);have CZ:=aF (λW=>JK op W);rw[<-hL]at CZ ho;have hlb:decide (0<L)=true:=by simp [ho]
 clear hL;go_enter Tryz.func102,Tryz.ntmps102;go_upto_region 2 with(refine sr 31 (.tmp 2) (.tmp 7) (w.heap.size+1) eZ ha0 ?_)
 obtain⟨w1,hw1⟩:∃w1,w1=((w.alloc (.cells #[I 4,I op,I n,S nm,av] 31)).alloc (.cells eZ 31)).setRow (w,1) #[I 4,I 0,I 0,S [], .slice none 0 0]:=⟨_,rfl⟩;have hb1:Below w w w1:=by rw[hw1];exact((cm w _).alloc aH _).grown bJ ct bh
 have hB:Row w1 w 31 [I 4,I op,I n,S nm,av]:=by rw[hw1];exact(setRow_other _ _ _ _ aG).trans (ho0 hn0)
 have hX:Row w1 (w,1) 31 [I 4,I 0,I 0,S [], .slice none 0 0]:=by rw[hw1];exact setRow_heap _ _ _ _ _ _ ha0
 rw[<-hw1];clear hw1;have b0:=hB.k0;have b1:=hB.k1;have x1:=hX.k1;have f1:=hX.frozen 1;have HB:=aF hB;have HX:=aF hX;have aI:=aF hb1;clear hB hX hb1;go_upto_region 14 with(fail)
 have hg2:=bO w1 (w,1) 1 (I op);have aY:=aF (HX.set 1 (I op));have aM:=bI HB hg2;have eY:=dF aI hg2;have⟨w2,hw2⟩:=xq (w1.setCell (w,1,1) (I op));rw[<-hw2]at aY aM eY|-;clear hw2 hg2 b0 b1 x1 f1;refine cC (λW=>W.cell? (w,1)=some (I op)/\W.cell? (w,1,0)=some (I 4)/\W.cell? (w,1,1)=some (I op)/\W.cell? (w,1,2)=some (I 0)/\W.cell? (w,1,3)=some (S [])/\W.cell? (w,1,4)=some (.slice none 0 0)) [0,0,0,1,0,1,0,0] (λwd hh=>⟨cQ aM hh 1,cQ aY hh 0,cQ aY hh 1,cQ aY hh 2,cQ aY hh 3,cQ aY hh 4⟩) λwd hh hgd hS=> ?_;have jo:=aY.kept hgd aH;have bN:=aF jo;have bE:=bI aM hgd;have fK:=dF eY hgd;clear hh hgd jo;refine dS ?_;go_wp2_with (go_at_call 144;refine aN (CZ wd) λwc hbc=> ?_;have dH:=bA bN hbc;have fY:=bA bE hbc;have kT:=aU fK hbc;clear hS)
 have I0:=kT.size;refine bw ⟨fY.cell 1,dH.cell 0,dH.cell 1,dH.cell 2,dH.cell 3,dH.cell 4⟩ λhS=> ?_;refine wX ?_;go_wp2_with (refine sr 31 (.tmp 2) (.tmp 52) (w.heap.size+1) #[I 4,I op,I 0,S [], .slice none 0 0] dH.out ?_)
 have⟨w3,hw3⟩:=xq (wc.setRow (w,1) #[I 4,I op,I 0,S [], .slice none 0 0]);have hg3:wc.grownBy w3 (some (w,1)):=by rw[hw3];exact bJ
 have hx3:Row w3 (w,1) 31 [I 4,I op,I 0,S [], .slice none 0 0]:=by rw[hw3];exact setRow_heap _ _ _ _ _ _ dH.out
 have hb3:=fY.kept hg3 aH;have bk:=dF kT hg3;rw[<-hw3];clear hw3 hg3 hS;refine bw ⟨hb3.cell 1,hx3.cell 0,hx3.cell 1,hx3.cell 2,hx3.cell 3,hx3.cell 4⟩ λhS=> ?_;have bq:=aF hx3;clear hx3 hb3;refine dP ?_;go_wp2;refine bodyPost_ret (tX rfl bq aL) rfl ?_;exact⟨rfl,bk⟩
theorem agI (op n:Int) (nm:aK) (ha:eH nm) (hn:isName nm=true) (al:Option Addr) (m cl:Nat) (hm:m<=6) (w:World):
  CR 102 #[.agg #[I 5,I op,I n,S nm,(.slice al m cl)]] w (.tuple #[.agg #[I 5,I 0,I 0,S nm, .slice none 0 0],I m, .bool true]):=by
 have cv:=aF (λW=>YX nm ha hn W);have zu:(m:Int)<=6:=aG;clear ha hn;go_enter Tryz.func102,Tryz.ntmps102;go_upto_region 2 with(refine sr 31 (.tmp 2) (.tmp 7) (w.heap.size+1) eZ ha0 ?_)
 obtain⟨w1,hw1⟩:∃w1,w1=((w.alloc (.cells #[I 5,I op,I n,S nm,(.slice al m cl)] 31)).alloc (.cells eZ 31)).setRow (w,1) #[I 5,I 0,I 0,S [], .slice none 0 0]:=⟨_,rfl⟩;have hb1:Below w w w1:=by rw[hw1];exact((cm w _).alloc aH _).grown bJ ct bh
 have hB:Row w1 w 31 [I 5,I op,I n,S nm,(.slice al m cl)]:=by rw[hw1];exact(setRow_other _ _ _ _ aG).trans (ho0 hn0)
 have hX:Row w1 (w,1) 31 [I 5,I 0,I 0,S [], .slice none 0 0]:=by rw[hw1];exact setRow_heap _ _ _ _ _ _ ha0
 rw[<-hw1];clear hw1;have b0:=hB.k0;have b3:=hB.k3;have x3:=hX.k3;have f3:=hX.frozen 3;have HB:=aF hB;have HX:=aF hX;have aI:=aF hb1;clear hB hX hb1;go_upto_region 17 with(fail)
 have hg2:=bO w1 (w,1) 3 (S nm);have aY:=aF (HX.set 3 (S nm));have aM:=bI HB hg2;have eY:=dF aI hg2;have⟨w2,hw2⟩:=xq (w1.setCell (w,1,3) (S nm));rw[<-hw2]at aY aM eY|-;clear hw2 hg2 b0 b3 x3 f3;refine cC (λW=>W.cell? (w,3)=some (S nm)/\W.cell? (w,4)=some ((.slice al m cl))/\W.cell? (w,1,0)=some (I 5)/\W.cell? (w,1,1)=some (I 0)/\W.cell? (w,1,2)=some (I 0)/\W.cell? (w,1,3)=some (S nm)/\W.cell? (w,1,4)=some (.slice none 0 0)) [0,0,0,0,0,0,1,0,0,0,0,0,0,1,0,0] (λwd hh=>⟨cQ aM hh 3,cQ aM hh 4,cQ aY hh 0,cQ aY hh 1,cQ aY hh 2,cQ aY hh 3,cQ aY hh 4⟩) λwd hh hgd hS=> ?_;have jo:=aY.kept hgd aH;have bN:=aF jo;have bE:=bI aM hgd;have fK:=dF eY hgd;clear hh hgd jo;refine dS ?_;go_wp2_with (go_at_call 117;refine aN (cv wd) λwc hbc=> ?_;have dH:=bA bN hbc;have fY:=bA bE hbc;have kT:=aU fK hbc;clear hS)
 have I0:=kT.size;refine bw ⟨fY.cell 3,fY.cell 4,dH.cell 0,dH.cell 1,dH.cell 2,dH.cell 3,dH.cell 4⟩ λhS=> ?_;refine wX ?_;go_wp2_with (refine sr 31 (.tmp 2) (.tmp 62) (w.heap.size+1) #[I 5,I 0,I 0,S nm, .slice none 0 0] dH.out ?_)
 have⟨w3,hw3⟩:=xq (wc.setRow (w,1) #[I 5,I 0,I 0,S nm, .slice none 0 0]);have hg3:wc.grownBy w3 (some (w,1)):=by rw[hw3];exact bJ
 have hx3:Row w3 (w,1) 31 [I 5,I 0,I 0,S nm, .slice none 0 0]:=by rw[hw3];exact setRow_heap _ _ _ _ _ _ dH.out
 have hb3:=fY.kept hg3 aH;have bk:=dF kT hg3;rw[<-hw3];clear hw3 hg3 hS;refine bw ⟨hb3.cell 3,hb3.cell 4,hx3.cell 0,hx3.cell 1,hx3.cell 2,hx3.cell 3,hx3.cell 4⟩ λhS=> ?_;have bq:=aF hx3;clear hx3 hb3;refine dP ?_;go_wp2;refine bodyPost_ret (tX rfl bq aL) rfl ?_;exact⟨rfl,bk⟩
theorem agJ (op n:Int) (nm:aK) (av:Value) (w:World):
  CR 102 #[.agg #[I 7,I op,I n,S nm,av]] w (.tuple #[.agg #[I 7,I 0,I 0,S [], .slice none 0 0],I 0, .bool true]):=by
 go_enter Tryz.func102,Tryz.ntmps102;go_upto_region 2 with(refine sr 31 (.tmp 2) (.tmp 7) (w.heap.size+1) eZ ha0 ?_)
 obtain⟨w1,hw1⟩:∃w1,w1=((w.alloc (.cells #[I 7,I op,I n,S nm,av] 31)).alloc (.cells eZ 31)).setRow (w,1) #[I 7,I 0,I 0,S [], .slice none 0 0]:=⟨_,rfl⟩;have hb1:Below w w w1:=by rw[hw1];exact((cm w _).alloc aH _).grown bJ ct bh
 have hB:Row w1 w 31 [I 7,I op,I n,S nm,av]:=by rw[hw1];exact(setRow_other _ _ _ _ aG).trans (ho0 hn0)
 have hX:Row w1 (w,1) 31 [I 7,I 0,I 0,S [], .slice none 0 0]:=by rw[hw1];exact setRow_heap _ _ _ _ _ _ ha0
 rw[<-hw1];clear hw1;have b0:=hB.k0;have x0:=hX.k0;have x1:=hX.k1;have x2:=hX.k2;have x3:=hX.k3;have x4:=hX.k4;have HX:=aF hX;have aI:=aF hb1;clear hB hX hb1;go_wp2_with (refine sr 31 (.tmp 2) (.tmp 86) (w.heap.size+1) #[I 7,I 0,I 0,S [], .slice none 0 0] HX.out ?_)
 refine bodyPost_ret (tX rfl (setRow_heap _ _ _ _ _ _ HX.out) aL) rfl ?_;exact⟨rfl,aI.grown bJ aI.size bh⟩
abbrev eB (e:LE) (av:Value):Array Value:= #[I e.kind,I e.op,I e.n,S e.name,av]
def DJ (e:LE):Prop:=
 (e.kind=1/\0<=e.n/\e.op=0/\e.name= []/\e.args.length=0)\/
 (e.kind=2/\(eH e.name/\isName e.name=true)/\e.op=0/\e.n=0/\e.args.length=0)\/
 (e.kind=3/\(e.op=17\/e.op=18\/e.op=19)/\e.n=0/\e.name= []/\e.args.length=1)\/
 (e.kind=4/\(1<=e.op/\e.op<=16)/\e.n=0/\e.name= []/\e.args.length=2)\/
 (e.kind=5/\(eH e.name/\isName e.name=true)/\e.op=0/\e.n=0/\e.args.length<=6)\/
 (e.kind=6/\(eH e.name/\isName e.name=true)/\e.op=0/\e.n=0/\e.args.length=1)\/
 (e.kind=7/\e.op=0/\e.n=0/\e.name= []/\e.args.length=0)
def ij:Nat->LE->Prop
 |0,_=>False
 |d+1,e=>DJ e/\∀x∈e.args,ij d x
theorem af2 {op:Int} (h:1<=op/\op<=16):0<nT op:=by
 unfold nT
 repeat' split
 all_goals omega
theorem RE.ev {d:Nat} {B:Nat->Prop} {W:World} {C:Nat->Value} {e:LE} (h:RE d B W C e):sO C=eV e (C 4)/\EX B W (C 4) e:=by
 cases d with
 |zero=>exact h.elim
 |succ d=>
  obtain⟨h0,h1,h2,h3,h4⟩:=h;exact⟨by simp only[sO,eV];rw[h0,h1,h2,h3],d,h4⟩
theorem EX.below {B:Nat->Prop} {w w':World} {av:Value} {e:LE} (h:EX B w av e) (hb:Below w w w'):EX B w' av e:=h.grown (bX hb none) aJ
theorem RE.below {d:Nat} {B:Nat->Prop} {w w':World} {C:Nat->Value} {e:LE} (hb:Below w w w') (h:RE d B w C e):RE d B w' C e:=h.grown d (bX hb none) aJ
def Names (l:List aK):Prop:=∀x∈l,eH x/\isName x=true
end
end Go.Proofs.YtjgbkdbkachciaaGreatDoor
