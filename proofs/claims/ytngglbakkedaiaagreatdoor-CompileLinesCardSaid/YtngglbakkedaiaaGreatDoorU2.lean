import Derived.Test.YtngglbakkedaiaaGreatDoorT5
import Derived.Deep.MidRow
import Derived.Recover
set_option linter.all false
namespace Go.Proofs.YtngglbakkedaiaaGreatDoor
section
open Go.RowKit Go.Shelf
attribute [local go_sem] Oper.semAt_some
def spl:Array Value→Nat→List Value→Array Value
 |c,_,[]=>c
 |c,o,v::r=>spl (c.setIfInBounds o v) (o+1) r
theorem spl_size:∀(vs:List Value) (c:Array Value) (o:Nat),(spl c o vs).size=c.size
 | [],_,_=>rfl
 |v::r,c,o=>by unfold spl;rw[spl_size r];simp
theorem spl_get:∀(vs:List Value) (c:Array Value) (o m:Nat),(spl c o vs)[m]? =if o≤m∧m<o+vs.length∧m<c.size then vs[m - o]? else c[m]?
 | [],c,o,m=>by
  rw[if_neg so0];rfl
 |v::r,c,o,m=>by
  unfold spl
  rw[spl_get r,Array.size_setIfInBounds]
  by_cases h1:o=m
  ·subst h1
   rw[if_neg om0]
   by_cases h2:o<c.size
   ·rw[if_pos so0];simp [h2]
   ·rw[if_neg om0];simp [h2]
  ·rw[Array.getElem?_setIfInBounds_ne h1]
   by_cases h2:o+1≤m∧m<o+1+r.length∧m<c.size
   ·rw[if_pos h2,if_pos (by simp only[List.length_cons];omega),show m - o=(m - (o+1))+1 by omega]
    simp
   ·rw[if_neg h2,if_neg (by simp only[List.length_cons];omega)]
theorem setCell_heap {W:World} {g o:Nat} {cur:Array Value} {t:TypeId} {fr:Nat×Nat} (h:W.heap[g]? =some (.cells cur t fr)) (v:Value):(W.setCell (g,o) v).heap[g]? =some (.cells (cur.setIfInBounds o v) t fr):=by
 obtain⟨hlt,hk⟩:=Array.getElem?_eq_some_iff.1 h;show(W.heap.modify g _)[g]? =_;rw[Array.getElem?_eq_getElem (by rw[Array.size_modify];exact hlt),Array.getElem_modify_self,hk];simp
theorem setCells_heap {g:Nat} {t:TypeId} {fr:Nat×Nat}:∀(vs:List Value) {W:World} {o:Nat} {cur:Array Value},W.heap[g]? =some (.cells cur t fr)→(W.setCells g o vs).heap[g]? =some (.cells (spl cur o vs) t fr)
 | [],_,_,_,h=>h
 |v::r,_W,_o,_cur,h=>setCells_heap r (setCell_heap h v)
theorem setCells_grown {g:Nat}:∀(vs:List Value) (W:World) (o:Nat),W.grownBy (W.setCells g o vs) (some g)
 | [],W,_=>World.grownBy.refl W _
 |v::r,W,o=>(setCell_grown W g o v).trans (setCells_grown r _ _)
theorem OwnS.set {α:Type} {k e:Nat} {enc:α→List Value} {W:World} {base g cap:Nat} {l:List α} (h:OwnS k e enc W base (.slice (some (g,0)) l.length cap) l) (hk:∀x,(enc x).length=k) (hk0:0<k) {i:Nat} (hi:i<l.length) (y:α):
  OwnS k e enc (W.setCells g (i*k) (enc y)) base (.slice (some (g,0)) l.length cap) (l.set i y):=by
 rcases h.2 with⟨h0,_⟩|⟨g',cap',cur,hv,hb,hg,hc,hm,hs,ht⟩
 ·cases h0
 ·obtain⟨rfl,rfl⟩:g=g'∧cap=cap':=by simpa using hv
  refine⟨flat_len hk _, .inr ⟨g,cap,spl cur (i*k) (enc y),by rw[List.length_set],hb,setCells_heap _ hg,by rw[List.length_set];exact hc,hm,by rw[spl_size];exact hs, ?_⟩⟩;rw[List.length_set];refine List.ext_getElem? fun m=> ?_;rw[List.getElem?_take];have hfl:=flat_len hk (l.set i y);rw[List.length_set]at hfl;by_cases hmn:m<l.length*k
  ·rw[if_pos hmn];have hmd:m/k*k+m%k=m:=by rw[Nat.mul_comm];exact Nat.div_add_mod m k
   have hmk:m%k<k:=Nat.mod_lt _ hk0;have hq:m/k<l.length:=(Nat.div_lt_iff_lt_mul hk0).2 hmn;have h1:=flat_get hk (l.set i y) (m/k) (m%k) hmk;have h2:=flat_get hk l (m/k) (m%k) hmk;rw[hmd]at h1 h2;rw[h1];have hcs:m<cur.size:=by
    have:l.length*k≤cap*k:=Nat.mul_le_mul_right k hc;omega
   rw[Array.getElem?_toList,spl_get,hk];by_cases hqi:m/k=i
   ·rw[hqi,List.getElem?_set_self hi,if_pos ⟨by rw[hqi]at hmd;omega,by rw[hqi]at hmd;omega,hcs⟩];simp only[Option.bind_some]
    congr 1
    rw[hqi]at hmd;omega
   ·rw[List.getElem?_set_ne (fun e=>hqi e.symm),←h2,if_neg ?_,←ht,List.getElem?_take,if_pos hmn,Array.getElem?_toList];intro ⟨h3,h4,_⟩;apply hqi;have h5:(m/k)<i+1:=(Nat.div_lt_iff_lt_mul hk0).2 (by rw[Nat.succ_mul];omega);have h6:i≤m/k:=(Nat.le_div_iff_mul_le hk0).2 om0;omega
  ·rw[if_neg hmn,List.getElem?_eq_none om0]
structure EA where
 e:LE
 a:Option Addr
 c:Nat
abbrev EA.av (p:EA):Value:= .slice p.a p.e.args.length p.c
def eEnc (p:EA):List Value:= [I p.e.kind,I p.e.op,I p.e.n,S p.e.name,p.av]
theorem eEnc_len (p:EA):(eEnc p).length=5:=rfl
theorem eEnc_one (p:EA):∀u∈eEnc p,u.oneCell'=true:=by intro u hu;simp [eEnc]at hu;rcases hu with rfl|rfl|rfl|rfl|rfl<;>rfl
theorem slExpr:SlT 53 57 5 64:=SlT.mk' (z:= .agg #[.int .i64 0, .int .i64 0, .int .i64 0, .string ByteArray.empty, .slice none 0 0]) Tryz.underlying53 kr0 rfl dc0
theorem list_leE {l:List EA} {P:Nat→EA→Prop} (hs:∀{d d':Nat} {x:EA},d≤d'→P d x→P d' x) (h:∀x∈l,∃d,P d x):∃d,∀x∈l,P d x:=by
 induction l with
 |nil=>exact⟨0,nx0⟩
 |cons y l ih=>
  obtain⟨d1,h1⟩:=ih fun x hx=>h x (List.mem_cons_of_mem _ hx);obtain⟨d2,h2⟩:=h y (List.mem_cons_self ..);refine⟨max d1 d2,fun x hx=> ?_⟩;rcases List.mem_cons.1 hx with rfl|hx
  ·exact hs (Nat.le_max_right _ _) h2
  ·exact hs (Nat.le_max_left _ _) (h1 x hx)
theorem OwnS.exprs {w:World} {base:Nat} {v:Value} {l:List EA} {e:LE} (h:OwnS 5 57 eEnc w base v l) (hl:l.length≤1000000000) (he:e.args=l.map EA.e) (hA:∀p∈l,EX (base≤·) w p.av p.e):EX (base≤·) w v e:=by
 obtain⟨d,hd⟩:=list_leE (P:=fun d p=>RSlB (base≤·) 5 (RE d (base≤·)) w p.av p.e.args) (fun h k=>k.weak (fun _ h=>h) (fun _ _ h'=>RE.le h h')) hA;refine⟨d+1, ?_⟩;rw[he];exact h.rslB EA.e eEnc_len hl fun p hp=>⟨rfl,rfl,rfl,rfl,hd p hp⟩
def EsI (wr:World) (base:Nat) (v:Value) (done:List EA):Prop:=OwnS 5 57 eEnc wr base v done∧∀p∈done,EX (fun b=>base≤b∧b<wr.heap.size∧v.ownBlock≠some b) wr p.av p.e
theorem EsI.nil (w:World) (base:Nat):EsI w base (.slice none 0 0) []:=⟨OwnS.nil,nx0⟩
theorem EsI.grown {w w':World} {base:Nat} {v:Value} {done:List EA} {row:Option Nat} (h:EsI w base v done) (hg:w.grownBy w' row) (hr:∀r,row=some r→r<base):EsI w' base v done:=by
 have hsz:=hg.size;refine⟨ownsRow_kept' h.1 hg ?_,fun p hp=> ?_⟩
 ·cases hv:v.ownBlock with
  |none=>exact .inl rfl
  |some k=>
   right;intro e;have:=hr k e.symm;have:=(ownsRow_base h.1 k hv).1;omega
 ·exact((h.2 p hp).grown hg (fun r e hb=>by have:=hr r e;omega)).weak fun b hb=>⟨hb.1,om0,hb.2.2⟩
theorem EsI.app {w1 w2 w3:World} {base g:Nat} {v v':Value} {done:List EA} {row:Option Nat} {y:EA} {o:Obj} (h:EsI w1 base v done) (hg:w1.grownBy w2 row) (hr:∀r,row=some r→r<base) (hx:EX (w1.heap.size≤·) w2 y.av y.e) (hb:base≤w1.heap.size)
  (ho:OwnS 5 57 eEnc w3 base v' (done++ [y])) (hg3:(w2.alloc o).grownBy w3 v.ownBlock) (hv':v'.ownBlock=some g) (hat:v.ownBlock=some g∨g=(w2.alloc o).heap.size):EsI w3 base v' (done++ [y]):=by
 have hs2:=hg.size;have hz2:(w2.alloc o).heap.size=w2.heap.size+1:=sm0;have hz3:=hg3.size;have h2:=h.grown hg hr;have hnb:∀b,base≤b→b<w2.heap.size→v.ownBlock≠some b→base≤b∧b<w3.heap.size∧v'.ownBlock≠some b:=by
  intro b h1 h2 h3;refine⟨h1,om0,fun e=> ?_⟩;rw[hv']at e;obtain rfl:=Option.some.inj e;rcases hat with h4|h4
  ·exact h3 h4
  ·omega
 refine⟨ho,fun p hp=> ?_⟩;rcases List.mem_append.1 hp with hp|hp
 ·exact((h2.2 p hp).alloc.grown hg3 (fun r e hb=>hb.2.2 e)).weak fun b hb=>hnb b hb.1 hb.2.1 hb.2.2
 ·obtain rfl:=List.mem_singleton.1 hp;have h5:∀r,v.ownBlock=some r→r<w1.heap.size:=fun r e=>(ownsRow_base h.1 r e).2;exact((hx.size.alloc).grown hg3 (fun r e hb=>by have:=h5 r e;omega)).weak fun b hb=>hnb b om0 hb.2 (fun e=>by have:=h5 b e;omega)
theorem EsI.read {w:World} {base:Nat} {v:Value} {done:List EA} {e:LE} (h:EsI w base v done) (hl:done.length≤1000000000) (he:e.args=done.map EA.e):EX (base≤·) w v e:=
 h.1.exprs hl he fun p hp=>(h.2 p hp).weak fun _ hb=>hb.1
theorem row_at {n:Nat} {t:TypeId} {w wd:World} {cs:List Value} (hr:Row w n t cs) (hh:wd.heap=w.heap) (j:Nat):wd.cell? (n,j)=cs[j]? :=by
 have:Row wd n t cs:=by unfold Row at*;rw[hh];exact hr
 exact this.cell j
theorem RS.size:∀(d:Nat) {B:Nat→Prop} {w:World} {C:Nat→Value} {s:LS},RS d B w C s→RS d (fun b=>B b∧b<w.heap.size) w C s
 |0,_,_,_,_,h=>h
 |d+1,_,_,_,_,⟨h0,h1,h2,h3,h4⟩=>⟨h0,h1,h2.size,h3.size om0 fun _ _ h=>RS.size d h,h4.size om0 fun _ _ h=>RS.size d h⟩
theorem SX.size {B:Nat→Prop} {w:World} {v:Value} {l:List LS} (h:SX B w v l):SX (fun b=>B b∧b<w.heap.size) w v l:=by
 obtain⟨d,h⟩:=h;exact⟨d,h.size om0 fun _ _ h=>RS.size d h⟩
abbrev AX (B:Nat→Prop) (W:World) (v:Value) (l:List LE):Prop:=EX B W v (.mk 0 0 0 [] l)
structure SD where
 s:LS
 a:Option Addr
 ac:Nat
 t:Option Addr
 tc:Nat
 e:Option Addr
 ec:Nat
abbrev SD.av (p:SD):Value:= .slice p.a p.s.args.length p.ac
abbrev SD.tv (p:SD):Value:= .slice p.t p.s.thn.length p.tc
abbrev SD.ev (p:SD):Value:= .slice p.e p.s.els.length p.ec
def dEnc (p:SD):List Value:= [I p.s.kind,S p.s.name,p.av,p.tv,p.ev]
theorem dEnc_len (p:SD):(dEnc p).length=5:=rfl
theorem dEnc_one (p:SD):∀u∈dEnc p,u.oneCell'=true:=by intro u hu;simp [dEnc]at hu;rcases hu with rfl|rfl|rfl|rfl|rfl<;>rfl
structure PartD (B:Nat→Prop) (w:World) (p:SD):Prop where
 a:AX B w p.av p.s.args
 t:SX B w p.tv p.s.thn
 e:SX B w p.ev p.s.els
theorem PartD.grown {B:Nat→Prop} {w w':World} {row:Option Nat} {p:SD} (h:PartD B w p) (hg:w.grownBy w' row) (hr:∀r,row=some r→ ¬B r):PartD B w' p:=
 ⟨EX.grown h.a hg hr,SX.grown h.t hg hr,SX.grown h.e hg hr⟩
theorem PartD.weak {B B':Nat→Prop} {w:World} {p:SD} (h:PartD B w p) (hB:∀b,B b→B' b):PartD B' w p:=⟨EX.weak h.a hB,SX.weak h.t hB,SX.weak h.e hB⟩
theorem PartD.size {B:Nat→Prop} {w:World} {p:SD} (h:PartD B w p):PartD (fun b=>B b∧b<w.heap.size) w p:=⟨EX.size h.a,SX.size h.t,SX.size h.e⟩
theorem list_leD {l:List SD} {P:Nat→SD→Prop} (hs:∀{d d':Nat} {x:SD},d≤d'→P d x→P d' x) (h:∀x∈l,∃d,P d x):∃d,∀x∈l,P d x:=by
 induction l with
 |nil=>exact⟨0,nx0⟩
 |cons y l ih=>
  obtain⟨d1,h1⟩:=ih fun x hx=>h x (List.mem_cons_of_mem _ hx);obtain⟨d2,h2⟩:=h y (List.mem_cons_self ..);refine⟨max d1 d2,fun x hx=> ?_⟩;rcases List.mem_cons.1 hx with rfl|hx
  ·exact hs (Nat.le_max_right _ _) h2
  ·exact hs (Nat.le_max_left _ _) (h1 x hx)
theorem OwnS.stmtsD {w:World} {base:Nat} {v:Value} {l:List SD} (h:OwnS 5 55 dEnc w base v l) (hl:l.length≤1000000000) (hA:∀p∈l,PartD (base≤·) w p):SX (base≤·) w v (l.map SD.s):=by
 obtain⟨d,hd⟩:=list_leD (P:=fun d p=>RSlB (base≤·) 5 (RS d (base≤·)) w p.tv p.s.thn∧RSlB (base≤·) 5 (RS d (base≤·)) w p.ev p.s.els)
  (fun h k=>⟨k.1.weak (fun _ h=>h) (fun _ _ h'=>RS.le h h'),k.2.weak (fun _ h=>h) (fun _ _ h'=>RS.le h h')⟩) (fun p hp=>by
   obtain⟨d1,h1⟩:=(hA p hp).t;obtain⟨d2,h2⟩:=(hA p hp).e;exact⟨max d1 d2,h1.weak (fun _ h=>h) (fun _ _ h'=>RS.le (Nat.le_max_left _ _) h'),h2.weak (fun _ h=>h) (fun _ _ h'=>RS.le (Nat.le_max_right _ _) h')⟩)
 refine⟨d+1, ?_⟩;exact h.rslB SD.s dEnc_len hl fun p hp=>⟨rfl,rfl,(hA p hp).a,(hd p hp).1,(hd p hp).2⟩
def SdI (wr:World) (base:Nat) (v:Value) (done:List SD):Prop:=OwnS 5 55 dEnc wr base v done∧∀p∈done,PartD (fun b=>base≤b∧b<wr.heap.size∧v.ownBlock≠some b) wr p
theorem SdI.nil (w:World) (base:Nat):SdI w base (.slice none 0 0) []:=⟨OwnS.nil,nx0⟩
theorem SdI.grown {w w':World} {base:Nat} {v:Value} {done:List SD} {row:Option Nat} (h:SdI w base v done) (hg:w.grownBy w' row) (hr:∀r,row=some r→r<base):SdI w' base v done:=by
 have hsz:=hg.size;refine⟨ownsRow_kept' h.1 hg ?_,fun p hp=> ?_⟩
 ·cases hv:v.ownBlock with
  |none=>exact .inl rfl
  |some k=>
   right;intro e;have:=hr k e.symm;have:=(ownsRow_base h.1 k hv).1;omega
 ·exact((h.2 p hp).grown hg (fun r e hb=>by have:=hr r e;omega)).weak fun b hb=>⟨hb.1,om0,hb.2.2⟩
theorem SdI.app {w1 w2 w3:World} {base g:Nat} {v v':Value} {done:List SD} {row:Option Nat} {y:SD} {o:Obj} (h:SdI w1 base v done) (hg:w1.grownBy w2 row) (hr:∀r,row=some r→r<base) (hx:PartD (w1.heap.size≤·) w2 y) (hb:base≤w1.heap.size)
  (ho:OwnS 5 55 dEnc w3 base v' (done++ [y])) (hg3:(w2.alloc o).grownBy w3 v.ownBlock) (hv':v'.ownBlock=some g) (hat:v.ownBlock=some g∨g=(w2.alloc o).heap.size):SdI w3 base v' (done++ [y]):=by
 have hs2:=hg.size;have hz2:(w2.alloc o).heap.size=w2.heap.size+1:=sm0;have hz3:=hg3.size;have h2:=h.grown hg hr;have hnb:∀b,base≤b→b<w2.heap.size→v.ownBlock≠some b→base≤b∧b<w3.heap.size∧v'.ownBlock≠some b:=by
  intro b h1 h2 h3;refine⟨h1,om0,fun e=> ?_⟩;rw[hv']at e;obtain rfl:=Option.some.inj e;rcases hat with h4|h4
  ·exact h3 h4
  ·omega
 have ha:∀{B:Nat→Prop} {p:SD},PartD B w2 p→PartD B (w2.alloc o) p:=fun h=>h.grown ag0 nx0;refine⟨ho,fun p hp=> ?_⟩;rcases List.mem_append.1 hp with hp|hp
 ·exact((ha (h2.2 p hp)).grown hg3 (fun r e hb=>hb.2.2 e)).weak fun b hb=>hnb b hb.1 hb.2.1 hb.2.2
 ·obtain rfl:=List.mem_singleton.1 hp;have h5:∀r,v.ownBlock=some r→r<w1.heap.size:=fun r e=>(ownsRow_base h.1 r e).2;exact((ha hx.size).grown hg3 (fun r e hb=>by have:=h5 r e;omega)).weak fun b hb=>hnb b om0 hb.2 (fun e=>by have:=h5 b e;omega)
theorem SdI.read {w:World} {base:Nat} {v:Value} {done:List SD} (h:SdI w base v done) (hl:done.length≤1000000000):SX (base≤·) w v (done.map SD.s):=
 h.1.stmtsD hl fun p hp=>(h.2 p hp).weak fun _ hb=>hb.1
theorem slStr:SlT 46 9 1 16:=SlT.mk' (z:= .string ByteArray.empty) Tryz.underlying46 kr0 rfl dc0
def sEncS (x:Str):List Value:= [S x]
theorem sEncS_len (x:Str):(sEncS x).length=1:=rfl
def a2Enc (x:LA):List Value:= [S x.name,I x.size]
theorem a2Enc_len (x:LA):(a2Enc x).length=2:=rfl
theorem a2Enc_one (x:LA):∀u∈a2Enc x,u.oneCell'=true:=by intro u hu;simp [a2Enc]at hu;rcases hu with rfl|rfl<;>rfl
theorem slArr:SlT 24 60 2 24:=SlT.mk' (z:= .agg #[.string ByteArray.empty, .int .i64 0]) Tryz.underlying24 kr0 rfl dc0
theorem OwnS.arrs {w:World} {base:Nat} {v:Value} {l:List LA} (h:OwnS 2 60 a2Enc w base v l) (hl:l.length≤1000000000):RSlB (base≤·) 2 RArr w v l:=by
 have:=h.rslB (R:=RArr) (fun x=>x) a2Enc_len hl fun x _=>⟨rfl,rfl⟩;simpa using this
theorem OwnS.strs {w:World} {base:Nat} {v:Value} {l:List Str} (h:OwnS 1 9 sEncS w base v l) (hl:l.length≤1000000000):RSlB (base≤·) 1 RStr w v l:=by
 have:=h.rslB (R:=RStr) (fun x=>x) sEncS_len hl fun x _=>rfl;simpa using this
structure FG where
 f:LF
 pa:Option Addr
 pc:Nat
 la:Option Addr
 lc:Nat
 ba:Option Addr
 bc:Nat
abbrev FG.pv (p:FG):Value:= .slice p.pa p.f.params.length p.pc
abbrev FG.lv (p:FG):Value:= .slice p.la p.f.locals.length p.lc
abbrev FG.bv (p:FG):Value:= .slice p.ba p.f.body.length p.bc
def fgEnc (p:FG):List Value:= [S p.f.name,p.pv,p.lv,p.bv]
theorem fgEnc_len (p:FG):(fgEnc p).length=4:=rfl
structure PartG (B:Nat→Prop) (w:World) (pv lv bv:Value) (f:LF):Prop where
 fp:RSlB B 1 RStr w pv f.params
 fl:RSlB B 1 RStr w lv f.locals
 fb:SX B w bv f.body
theorem PartG.grown {B:Nat→Prop} {w w':World} {row:Option Nat} {pv lv bv:Value} {f:LF} (h:PartG B w pv lv bv f) (hg:w.grownBy w' row) (hr:∀r,row=some r→ ¬B r):PartG B w' pv lv bv f:=
 ⟨h.fp.grown hg hr i20,h.fl.grown hg hr i20,SX.grown h.fb hg hr⟩
theorem PartG.weak {B B':Nat→Prop} {w:World} {pv lv bv:Value} {f:LF} (h:PartG B w pv lv bv f) (hB:∀b,B b→B' b):PartG B' w pv lv bv f:=⟨h.fp.weak hB i20,h.fl.weak hB i20,SX.weak h.fb hB⟩
theorem PartG.size {B:Nat→Prop} {w:World} {pv lv bv:Value} {f:LF} (h:PartG B w pv lv bv f):PartG (fun b=>B b∧b<w.heap.size) w pv lv bv f:=⟨h.fp.size om0 i20,h.fl.size om0 i20,SX.size h.fb⟩
theorem PartG.slice {B:Nat→Prop} {w:World} {pv lv bv:Value} {f:LF} (h:PartG B w pv lv bv f):∃p:FG,p.f=f∧pv=p.pv∧lv=p.lv∧bv=p.bv:=by
 obtain⟨⟨a,c,h1,_⟩,⟨a',c',h2,_⟩,h3⟩:=h;obtain⟨a'',c'',h3⟩:=h3.slice;exact⟨⟨f,a,c,a',c',a'',c''⟩,rfl,h1,h2,h3⟩
theorem OwnS.fgs {w:World} {base:Nat} {v:Value} {l:List FG} (h:OwnS 4 51 fgEnc w base v l) (hl:l.length≤1000000000) (hA:∀p∈l,PartG (base≤·) w p.pv p.lv p.bv p.f):RSlB (base≤·) 4 (RF (base≤·)) w v (l.map FG.f):=
 h.rslB FG.f fgEnc_len hl fun p hp=>⟨rfl,(hA p hp).fp,(hA p hp).fl,(hA p hp).fb⟩
theorem OwnS.thereK {α:Type} {k e:Nat} {enc:α→List Value} {w:World} {base g n cap:Nat} {l:List α} (h:OwnS k e enc w base (.slice (some (g,0)) n cap) l) (hk:∀x,(enc x).length=k) {i:Nat} (hi:i<l.length):w.there g (i*k) k:=fun j hj=>by
 obtain⟨g2,c2,hv2,_,hcl⟩:=h.cell hk hi
 obtain rfl:g2=g:=by simp at hv2;exact hv2.1.symm
 have h1:=hcl j hj
 refine⟨?_,h1.2⟩
 rw[h1.1,List.getElem?_eq_getElem (by rw[hk];exact hj)]
 rfl
theorem SX.nil (B:Nat→Prop) (W:World):SX B W (.slice none 0 0) []:=⟨0,RSlB.nil _ _ _ _⟩
end
section
open Go.RowKit Go.Shelf
attribute [local go_sem] Oper.semAt_some
abbrev agg5 (C:Nat→Value):Value:= .agg #[C 0,C 1,C 2,C 3,C 4]
abbrev agg1 (C:Nat→Value):Value:=C 0
theorem RSlB.below {α:Type} {B:Nat→Prop} {k:Nat} {R:World→(Nat→Value)→α→Prop} {w w':World} (hb:Below w w w') (hR:∀C x,R w C x→R w' C x) {v:Value} {l:List α} (h:RSlB B k R w v l):RSlB B k R w' v l:=h.grown (below_grown hb none) nx0 hR
theorem RSlB.at {α:Type} {B:Nat→Prop} {k:Nat} {R:World→(Nat→Value)→α→Prop} {w:World} {a:Option Addr} {c n:Nat} {l:List α} (h:RSlB B k R w (.slice a n c) l) {i:Nat} (hi:i<l.length):∃b o C,a=some ⟨b,o,none⟩∧B b∧(∀j,j<k→w.cell? ⟨b,o+i*k+j,none⟩=some (C j))∧R w C l[i]:=by
 obtain⟨a',c',h1,h2,h3⟩:=h;obtain⟨rfl,rfl,rfl⟩:a=a'∧n=l.length∧c=c':=by simpa using h1
 rcases h3 with rfl|⟨b,o,rfl,hb,h4⟩
 ·exact absurd hi sm0
 ·obtain⟨C,h5,h6⟩:=h4 i l[i] (List.getElem?_eq_getElem hi);exact⟨b,o,C,rfl,hb,h5,h6⟩
end
section
open Go.RowKit Go.Shelf
attribute [local go_sem] Oper.semAt_some
theorem only_results {tmps:Array Value} {w:World} {g:Nat} {cs:Array Value} (h2:tmps.getD 2 undef= .pointer (some (g,0))) (hr:w.heap[g]? =some (.cells cs 57 (0,0))) (hs:(Tryz.prog.info? 57).map (·.size)=some cs.size):
  (results Tryz.f240 tmps).run Tryz.prog w= .ok (.tuple #[.agg cs,tmps.getD 3 undef,tmps.getD 4 undef]) w:=by
 have h2':tmps[2]?.getD undef= .pointer (some (g,0)):=by simpa using h2
 have h:=run_loadVar_row (P:=Tryz.prog) w g 57 57 cs (0,0) _ hr Tryz.underlying57 rfl hs;simp [results,h2',asAddr,h]
theorem row_held {n:Nat} {w wd:World} {cs:List Value} (hr:Row w n 57 cs) (hh:wd.heap=w.heap) (j:Nat):wd.cell? (n,j)=cs[j]? :=by
 have:Row wd n 57 cs:=by unfold Row at*;rw[hh];exact hr
 exact this.cell j
set_option maxRecDepth 100000 in
set_option maxHeartbeats 2000000 in
theorem only_num (op n:Int) (nm:Str) (av:Value) (h1:0≤n) (w:World):
  CR 240 #[.agg #[I 1,I op,I n,S nm,av]] w (.tuple #[.agg #[I 1,I 0,I n,S [], .slice none 0 0],I 0, .bool true]):=by
 have h1b:decide (0≤n)=true:=by simp [h1]
 go_enter Tryz.func240,Tryz.ntmps240;go_upto_region 2 with(refine sr 57 (.tmp 2) (.tmp 7) (w.heap.size+1) eZ ha0 ?_)
 obtain⟨w1,hw1⟩:∃w1,w1=((w.alloc (.cells #[I 1,I op,I n,S nm,av] 57)).alloc (.cells eZ 57)).setRow (w,1) #[I 1,I 0,I 0,S [], .slice none 0 0]:=⟨_,rfl⟩;have hb1:Below w w w1:=by rw[hw1];exact((below_a1 w _).alloc sm0 _).grown setRow_grown so0 sx0
 have hB:Row w1 w 57 [I 1,I op,I n,S nm,av]:=by rw[hw1];exact(setRow_other _ _ _ _ om0).trans (ho0 hn0)
 have hX:Row w1 (w,1) 57 [I 1,I 0,I 0,S [], .slice none 0 0]:=by rw[hw1];exact setRow_heap _ _ _ _ _ _ ha0
 rw[←hw1];clear hw1;have b0:=hB.k0;have b2:=hB.k2;have x2:=hX.k2;have f2:=hX.frozen 2;have HB:=hqz9 hB;have HX:=hqz9 hX;have HB1:=hqz9 hb1;clear hB hX hb1;go_upto_region 5 with(fail)
 have hg2:=setCell_grown w1 (w,1) 2 (I n);have HX2:=hqz9 (HX.set 2 (I n));have HB2:=kp0 HB hg2;have HC2:=gw0 HB1 hg2;have⟨w2,hw2⟩:=xq (w1.setCell (w,1,2) (I n));rw[←hw2]at HX2 HB2 HC2⊢;clear hw2 hg2 b0 b2 x2 f2;refine rW0 (fun W=>W.cell? (w,2)=some (I n)∧W.cell? (w,1,0)=some (I 1)∧W.cell? (w,1,1)=some (I 0)∧W.cell? (w,1,2)=some (I n)∧W.cell? (w,1,3)=some (S [])∧W.cell? (w,1,4)=some (.slice none 0 0)) [0,0,0,0,1,0,0] (fun wd hh=>⟨row_held HB2 hh 2,row_held HX2 hh 0,row_held HX2 hh 1,row_held HX2 hh 2,row_held HX2 hh 3,row_held HX2 hh 4⟩) fun wd hh hgd hS=> ?_;have hXd:=HX2.kept hgd sm0;have HXD:=hqz9 hXd;have HBD:=kp0 HB2 hgd;have HCD:=gw0 HC2 hgd;clear hh hgd hXd;refine lkP ?_;go_wp2_with (refine sr 57 (.tmp 2) (.tmp 15) (w.heap.size+1) #[I 1,I 0,I n,S [], .slice none 0 0] HXD.out ?_)
 have⟨w3,hw3⟩:=xq (wd.setRow (w,1) #[I 1,I 0,I n,S [], .slice none 0 0]);have hg3:wd.grownBy w3 (some (w,1)):=by rw[hw3];exact setRow_grown
 have hx3:Row w3 (w,1) 57 [I 1,I 0,I n,S [], .slice none 0 0]:=by rw[hw3];exact setRow_heap _ _ _ _ _ _ HXD.out
 have hb3:=HBD.kept hg3 sm0;have HC3:=gw0 HCD hg3;rw[←hw3];clear hw3 hg3 hS;refine QN_keep ⟨hb3.cell 2,hx3.cell 0,hx3.cell 1,hx3.cell 2,hx3.cell 3,hx3.cell 4⟩ fun hS=> ?_;have HX3:=hqz9 hx3;clear hx3 hb3;refine lkN ?_;go_wp2;refine bodyPost_ret (only_results rfl HX3 kr0) rfl ?_;exact⟨rfl,HC3⟩
set_option maxRecDepth 100000 in
set_option maxHeartbeats 2000000 in
theorem only_one17 (n:Int) (nm:Str) (av:Value) (w:World):
  CR 240 #[.agg #[I 3,I 17,I n,S nm,av]] w (.tuple #[.agg #[I 3,I 17,I 0,S [], .slice none 0 0],I 1, .bool true]):=by
 go_enter Tryz.func240,Tryz.ntmps240;go_upto_region 2 with(refine sr 57 (.tmp 2) (.tmp 7) (w.heap.size+1) eZ ha0 ?_)
 obtain⟨w1,hw1⟩:∃w1,w1=((w.alloc (.cells #[I 3,I 17,I n,S nm,av] 57)).alloc (.cells eZ 57)).setRow (w,1) #[I 3,I 0,I 0,S [], .slice none 0 0]:=⟨_,rfl⟩;have hb1:Below w w w1:=by rw[hw1];exact((below_a1 w _).alloc sm0 _).grown setRow_grown so0 sx0
 have hB:Row w1 w 57 [I 3,I 17,I n,S nm,av]:=by rw[hw1];exact(setRow_other _ _ _ _ om0).trans (ho0 hn0)
 have hX:Row w1 (w,1) 57 [I 3,I 0,I 0,S [], .slice none 0 0]:=by rw[hw1];exact setRow_heap _ _ _ _ _ _ ha0
 rw[←hw1];clear hw1;have b0:=hB.k0;have b1:=hB.k1;have x1:=hX.k1;have f1:=hX.frozen 1;have HB:=hqz9 hB;have HX:=hqz9 hX;have HB1:=hqz9 hb1;clear hB hX hb1;go_upto_region 11 with(fail)
 have hg2:=setCell_grown w1 (w,1) 1 (I 17);have HX2:=hqz9 (HX.set 1 (I 17));have HB2:=kp0 HB hg2;have HC2:=gw0 HB1 hg2;have⟨w2,hw2⟩:=xq (w1.setCell (w,1,1) (I 17));rw[←hw2]at HX2 HB2 HC2⊢;clear hw2 hg2 b0 b1 x1 f1;refine rW0 (fun W=>W.cell? (w,1)=some (I 17)∧W.cell? (w,1,0)=some (I 3)∧W.cell? (w,1,1)=some (I 17)∧W.cell? (w,1,2)=some (I 0)∧W.cell? (w,1,3)=some (S [])∧W.cell? (w,1,4)=some (.slice none 0 0)) [0,0,0,0,0,0,0,0,0,0,0,0,0,0,1,0,0] (fun wd hh=>⟨row_held HB2 hh 1,row_held HX2 hh 0,row_held HX2 hh 1,row_held HX2 hh 2,row_held HX2 hh 3,row_held HX2 hh 4⟩) fun wd hh hgd hS=> ?_;have hXd:=HX2.kept hgd sm0;have HXD:=hqz9 hXd;have HBD:=kp0 HB2 hgd;have HCD:=gw0 HC2 hgd;clear hh hgd hXd;refine lkP ?_;go_wp2_with (refine sr 57 (.tmp 2) (.tmp 33) (w.heap.size+1) #[I 3,I 17,I 0,S [], .slice none 0 0] HXD.out ?_)
 have⟨w3,hw3⟩:=xq (wd.setRow (w,1) #[I 3,I 17,I 0,S [], .slice none 0 0]);have hg3:wd.grownBy w3 (some (w,1)):=by rw[hw3];exact setRow_grown
 have hx3:Row w3 (w,1) 57 [I 3,I 17,I 0,S [], .slice none 0 0]:=by rw[hw3];exact setRow_heap _ _ _ _ _ _ HXD.out
 have hb3:=HBD.kept hg3 sm0;have HC3:=gw0 HCD hg3;rw[←hw3];clear hw3 hg3 hS;refine QN_keep ⟨hb3.cell 1,hx3.cell 0,hx3.cell 1,hx3.cell 2,hx3.cell 3,hx3.cell 4⟩ fun hS=> ?_;have HX3:=hqz9 hx3;clear hx3 hb3;refine lkN ?_;go_wp2;refine bodyPost_ret (only_results rfl HX3 kr0) rfl ?_;exact⟨rfl,HC3⟩
set_option maxRecDepth 100000 in
set_option maxHeartbeats 2000000 in
theorem only_one18 (n:Int) (nm:Str) (av:Value) (w:World):
  CR 240 #[.agg #[I 3,I 18,I n,S nm,av]] w (.tuple #[.agg #[I 3,I 18,I 0,S [], .slice none 0 0],I 1, .bool true]):=by
 go_enter Tryz.func240,Tryz.ntmps240;go_upto_region 2 with(refine sr 57 (.tmp 2) (.tmp 7) (w.heap.size+1) eZ ha0 ?_)
 obtain⟨w1,hw1⟩:∃w1,w1=((w.alloc (.cells #[I 3,I 18,I n,S nm,av] 57)).alloc (.cells eZ 57)).setRow (w,1) #[I 3,I 0,I 0,S [], .slice none 0 0]:=⟨_,rfl⟩;have hb1:Below w w w1:=by rw[hw1];exact((below_a1 w _).alloc sm0 _).grown setRow_grown so0 sx0
 have hB:Row w1 w 57 [I 3,I 18,I n,S nm,av]:=by rw[hw1];exact(setRow_other _ _ _ _ om0).trans (ho0 hn0)
 have hX:Row w1 (w,1) 57 [I 3,I 0,I 0,S [], .slice none 0 0]:=by rw[hw1];exact setRow_heap _ _ _ _ _ _ ha0
 rw[←hw1];clear hw1;have b0:=hB.k0;have b1:=hB.k1;have x1:=hX.k1;have f1:=hX.frozen 1;have HB:=hqz9 hB;have HX:=hqz9 hX;have HB1:=hqz9 hb1;clear hB hX hb1;go_upto_region 11 with(fail)
 have hg2:=setCell_grown w1 (w,1) 1 (I 18);have HX2:=hqz9 (HX.set 1 (I 18));have HB2:=kp0 HB hg2;have HC2:=gw0 HB1 hg2;have⟨w2,hw2⟩:=xq (w1.setCell (w,1,1) (I 18));rw[←hw2]at HX2 HB2 HC2⊢;clear hw2 hg2 b0 b1 x1 f1;refine rW0 (fun W=>W.cell? (w,1)=some (I 18)∧W.cell? (w,1,0)=some (I 3)∧W.cell? (w,1,1)=some (I 18)∧W.cell? (w,1,2)=some (I 0)∧W.cell? (w,1,3)=some (S [])∧W.cell? (w,1,4)=some (.slice none 0 0)) [0,0,0,0,0,0,0,0,0,0,0,0,0,0,1,0,0] (fun wd hh=>⟨row_held HB2 hh 1,row_held HX2 hh 0,row_held HX2 hh 1,row_held HX2 hh 2,row_held HX2 hh 3,row_held HX2 hh 4⟩) fun wd hh hgd hS=> ?_;have hXd:=HX2.kept hgd sm0;have HXD:=hqz9 hXd;have HBD:=kp0 HB2 hgd;have HCD:=gw0 HC2 hgd;clear hh hgd hXd;refine lkP ?_;go_wp2_with (refine sr 57 (.tmp 2) (.tmp 33) (w.heap.size+1) #[I 3,I 18,I 0,S [], .slice none 0 0] HXD.out ?_)
 have⟨w3,hw3⟩:=xq (wd.setRow (w,1) #[I 3,I 18,I 0,S [], .slice none 0 0]);have hg3:wd.grownBy w3 (some (w,1)):=by rw[hw3];exact setRow_grown
 have hx3:Row w3 (w,1) 57 [I 3,I 18,I 0,S [], .slice none 0 0]:=by rw[hw3];exact setRow_heap _ _ _ _ _ _ HXD.out
 have hb3:=HBD.kept hg3 sm0;have HC3:=gw0 HCD hg3;rw[←hw3];clear hw3 hg3 hS;refine QN_keep ⟨hb3.cell 1,hx3.cell 0,hx3.cell 1,hx3.cell 2,hx3.cell 3,hx3.cell 4⟩ fun hS=> ?_;have HX3:=hqz9 hx3;clear hx3 hb3;refine lkN ?_;go_wp2;refine bodyPost_ret (only_results rfl HX3 kr0) rfl ?_;exact⟨rfl,HC3⟩
set_option maxRecDepth 100000 in
set_option maxHeartbeats 2000000 in
theorem only_one19 (n:Int) (nm:Str) (av:Value) (w:World):
  CR 240 #[.agg #[I 3,I 19,I n,S nm,av]] w (.tuple #[.agg #[I 3,I 19,I 0,S [], .slice none 0 0],I 1, .bool true]):=by
 go_enter Tryz.func240,Tryz.ntmps240;go_upto_region 2 with(refine sr 57 (.tmp 2) (.tmp 7) (w.heap.size+1) eZ ha0 ?_)
 obtain⟨w1,hw1⟩:∃w1,w1=((w.alloc (.cells #[I 3,I 19,I n,S nm,av] 57)).alloc (.cells eZ 57)).setRow (w,1) #[I 3,I 0,I 0,S [], .slice none 0 0]:=⟨_,rfl⟩;have hb1:Below w w w1:=by rw[hw1];exact((below_a1 w _).alloc sm0 _).grown setRow_grown so0 sx0
 have hB:Row w1 w 57 [I 3,I 19,I n,S nm,av]:=by rw[hw1];exact(setRow_other _ _ _ _ om0).trans (ho0 hn0)
 have hX:Row w1 (w,1) 57 [I 3,I 0,I 0,S [], .slice none 0 0]:=by rw[hw1];exact setRow_heap _ _ _ _ _ _ ha0
 rw[←hw1];clear hw1;have b0:=hB.k0;have b1:=hB.k1;have x1:=hX.k1;have f1:=hX.frozen 1;have HB:=hqz9 hB;have HX:=hqz9 hX;have HB1:=hqz9 hb1;clear hB hX hb1;go_upto_region 11 with(fail)
 have hg2:=setCell_grown w1 (w,1) 1 (I 19);have HX2:=hqz9 (HX.set 1 (I 19));have HB2:=kp0 HB hg2;have HC2:=gw0 HB1 hg2;have⟨w2,hw2⟩:=xq (w1.setCell (w,1,1) (I 19));rw[←hw2]at HX2 HB2 HC2⊢;clear hw2 hg2 b0 b1 x1 f1;refine rW0 (fun W=>W.cell? (w,1)=some (I 19)∧W.cell? (w,1,0)=some (I 3)∧W.cell? (w,1,1)=some (I 19)∧W.cell? (w,1,2)=some (I 0)∧W.cell? (w,1,3)=some (S [])∧W.cell? (w,1,4)=some (.slice none 0 0)) [0,0,0,0,0,0,0,0,0,0,0,0,0,0,1,0,0] (fun wd hh=>⟨row_held HB2 hh 1,row_held HX2 hh 0,row_held HX2 hh 1,row_held HX2 hh 2,row_held HX2 hh 3,row_held HX2 hh 4⟩) fun wd hh hgd hS=> ?_;have hXd:=HX2.kept hgd sm0;have HXD:=hqz9 hXd;have HBD:=kp0 HB2 hgd;have HCD:=gw0 HC2 hgd;clear hh hgd hXd;refine lkP ?_;go_wp2_with (refine sr 57 (.tmp 2) (.tmp 33) (w.heap.size+1) #[I 3,I 19,I 0,S [], .slice none 0 0] HXD.out ?_)
 have⟨w3,hw3⟩:=xq (wd.setRow (w,1) #[I 3,I 19,I 0,S [], .slice none 0 0]);have hg3:wd.grownBy w3 (some (w,1)):=by rw[hw3];exact setRow_grown
 have hx3:Row w3 (w,1) 57 [I 3,I 19,I 0,S [], .slice none 0 0]:=by rw[hw3];exact setRow_heap _ _ _ _ _ _ HXD.out
 have hb3:=HBD.kept hg3 sm0;have HC3:=gw0 HCD hg3;rw[←hw3];clear hw3 hg3 hS;refine QN_keep ⟨hb3.cell 1,hx3.cell 0,hx3.cell 1,hx3.cell 2,hx3.cell 3,hx3.cell 4⟩ fun hS=> ?_;have HX3:=hqz9 hx3;clear hx3 hb3;refine lkN ?_;go_wp2;refine bodyPost_ret (only_results rfl HX3 kr0) rfl ?_;exact⟨rfl,HC3⟩
set_option maxRecDepth 100000 in
set_option maxHeartbeats 2000000 in
theorem only_two (op n:Int) (nm:Str) (av:Value) (ho:0<levelI op) (w:World):
  CR 240 #[.agg #[I 4,I op,I n,S nm,av]] w (.tuple #[.agg #[I 4,I op,I 0,S [], .slice none 0 0],I 2, .bool true]):=by
 have⟨L,hL⟩:=xq (levelI op);have HLV:=hqz9 (fun W=>level_any op W);rw[←hL]at HLV ho;have hlb:decide (0<L)=true:=by simp [ho]
 clear hL;go_enter Tryz.func240,Tryz.ntmps240;go_upto_region 2 with(refine sr 57 (.tmp 2) (.tmp 7) (w.heap.size+1) eZ ha0 ?_)
 obtain⟨w1,hw1⟩:∃w1,w1=((w.alloc (.cells #[I 4,I op,I n,S nm,av] 57)).alloc (.cells eZ 57)).setRow (w,1) #[I 4,I 0,I 0,S [], .slice none 0 0]:=⟨_,rfl⟩;have hb1:Below w w w1:=by rw[hw1];exact((below_a1 w _).alloc sm0 _).grown setRow_grown so0 sx0
 have hB:Row w1 w 57 [I 4,I op,I n,S nm,av]:=by rw[hw1];exact(setRow_other _ _ _ _ om0).trans (ho0 hn0)
 have hX:Row w1 (w,1) 57 [I 4,I 0,I 0,S [], .slice none 0 0]:=by rw[hw1];exact setRow_heap _ _ _ _ _ _ ha0
 rw[←hw1];clear hw1;have b0:=hB.k0;have b1:=hB.k1;have x1:=hX.k1;have f1:=hX.frozen 1;have HB:=hqz9 hB;have HX:=hqz9 hX;have HB1:=hqz9 hb1;clear hB hX hb1;go_upto_region 14 with(fail)
 have hg2:=setCell_grown w1 (w,1) 1 (I op);have HX2:=hqz9 (HX.set 1 (I op));have HB2:=kp0 HB hg2;have HC2:=gw0 HB1 hg2;have⟨w2,hw2⟩:=xq (w1.setCell (w,1,1) (I op));rw[←hw2]at HX2 HB2 HC2⊢;clear hw2 hg2 b0 b1 x1 f1;refine rW0 (fun W=>W.cell? (w,1)=some (I op)∧W.cell? (w,1,0)=some (I 4)∧W.cell? (w,1,1)=some (I op)∧W.cell? (w,1,2)=some (I 0)∧W.cell? (w,1,3)=some (S [])∧W.cell? (w,1,4)=some (.slice none 0 0)) [0,0,0,1,0,1,0,0] (fun wd hh=>⟨row_held HB2 hh 1,row_held HX2 hh 0,row_held HX2 hh 1,row_held HX2 hh 2,row_held HX2 hh 3,row_held HX2 hh 4⟩) fun wd hh hgd hS=> ?_;have hXd:=HX2.kept hgd sm0;have HXD:=hqz9 hXd;have HBD:=kp0 HB2 hgd;have HCD:=gw0 HC2 hgd;clear hh hgd hXd;refine lkP ?_;go_wp2_with (go_at_call 299;refine mh0 (HLV wd) fun wc hbc=> ?_;have HXC:=xt0 HXD hbc;have HBC:=xt0 HBD hbc;have HCC:=bt0 HCD hbc;clear hS)
 have hzc:=HCC.size;refine QN_keep ⟨HBC.cell 1,HXC.cell 0,HXC.cell 1,HXC.cell 2,HXC.cell 3,HXC.cell 4⟩ fun hS=> ?_;refine lkE ?_;go_wp2_with (refine sr 57 (.tmp 2) (.tmp 52) (w.heap.size+1) #[I 4,I op,I 0,S [], .slice none 0 0] HXC.out ?_)
 have⟨w3,hw3⟩:=xq (wc.setRow (w,1) #[I 4,I op,I 0,S [], .slice none 0 0]);have hg3:wc.grownBy w3 (some (w,1)):=by rw[hw3];exact setRow_grown
 have hx3:Row w3 (w,1) 57 [I 4,I op,I 0,S [], .slice none 0 0]:=by rw[hw3];exact setRow_heap _ _ _ _ _ _ HXC.out
 have hb3:=HBC.kept hg3 sm0;have HC3:=gw0 HCC hg3;rw[←hw3];clear hw3 hg3 hS;refine QN_keep ⟨hb3.cell 1,hx3.cell 0,hx3.cell 1,hx3.cell 2,hx3.cell 3,hx3.cell 4⟩ fun hS=> ?_;have HX3:=hqz9 hx3;clear hx3 hb3;refine lkN ?_;go_wp2;refine bodyPost_ret (only_results rfl HX3 kr0) rfl ?_;exact⟨rfl,HC3⟩
set_option maxRecDepth 100000 in
set_option maxHeartbeats 2000000 in
theorem only_call (op n:Int) (nm:Str) (ha:Asc nm) (hn:isName nm=true) (al:Option Addr) (m cl:Nat) (hm:m≤6) (w:World):
  CR 240 #[.agg #[I 5,I op,I n,S nm,(.slice al m cl)]] w (.tuple #[.agg #[I 5,I 0,I 0,S nm, .slice none 0 0],I m, .bool true]):=by
 have HNM:=hqz9 (fun W=>name_yes nm ha hn W);have hmz:(m:Int)≤6:=om0;clear ha hn;go_enter Tryz.func240,Tryz.ntmps240;go_upto_region 2 with(refine sr 57 (.tmp 2) (.tmp 7) (w.heap.size+1) eZ ha0 ?_)
 obtain⟨w1,hw1⟩:∃w1,w1=((w.alloc (.cells #[I 5,I op,I n,S nm,(.slice al m cl)] 57)).alloc (.cells eZ 57)).setRow (w,1) #[I 5,I 0,I 0,S [], .slice none 0 0]:=⟨_,rfl⟩;have hb1:Below w w w1:=by rw[hw1];exact((below_a1 w _).alloc sm0 _).grown setRow_grown so0 sx0
 have hB:Row w1 w 57 [I 5,I op,I n,S nm,(.slice al m cl)]:=by rw[hw1];exact(setRow_other _ _ _ _ om0).trans (ho0 hn0)
 have hX:Row w1 (w,1) 57 [I 5,I 0,I 0,S [], .slice none 0 0]:=by rw[hw1];exact setRow_heap _ _ _ _ _ _ ha0
 rw[←hw1];clear hw1;have b0:=hB.k0;have b3:=hB.k3;have x3:=hX.k3;have f3:=hX.frozen 3;have HB:=hqz9 hB;have HX:=hqz9 hX;have HB1:=hqz9 hb1;clear hB hX hb1;go_upto_region 17 with(fail)
 have hg2:=setCell_grown w1 (w,1) 3 (S nm);have HX2:=hqz9 (HX.set 3 (S nm));have HB2:=kp0 HB hg2;have HC2:=gw0 HB1 hg2;have⟨w2,hw2⟩:=xq (w1.setCell (w,1,3) (S nm));rw[←hw2]at HX2 HB2 HC2⊢;clear hw2 hg2 b0 b3 x3 f3;refine rW0 (fun W=>W.cell? (w,3)=some (S nm)∧W.cell? (w,4)=some ((.slice al m cl))∧W.cell? (w,1,0)=some (I 5)∧W.cell? (w,1,1)=some (I 0)∧W.cell? (w,1,2)=some (I 0)∧W.cell? (w,1,3)=some (S nm)∧W.cell? (w,1,4)=some (.slice none 0 0)) [0,0,0,0,0,0,1,0,0,0,0,0,0,1,0,0] (fun wd hh=>⟨row_held HB2 hh 3,row_held HB2 hh 4,row_held HX2 hh 0,row_held HX2 hh 1,row_held HX2 hh 2,row_held HX2 hh 3,row_held HX2 hh 4⟩) fun wd hh hgd hS=> ?_;have hXd:=HX2.kept hgd sm0;have HXD:=hqz9 hXd;have HBD:=kp0 HB2 hgd;have HCD:=gw0 HC2 hgd;clear hh hgd hXd;refine lkP ?_;go_wp2_with (go_at_call 59;refine mh0 (HNM wd) fun wc hbc=> ?_;have HXC:=xt0 HXD hbc;have HBC:=xt0 HBD hbc;have HCC:=bt0 HCD hbc;clear hS)
 have hzc:=HCC.size;refine QN_keep ⟨HBC.cell 3,HBC.cell 4,HXC.cell 0,HXC.cell 1,HXC.cell 2,HXC.cell 3,HXC.cell 4⟩ fun hS=> ?_;refine lkE ?_;go_wp2_with (refine sr 57 (.tmp 2) (.tmp 62) (w.heap.size+1) #[I 5,I 0,I 0,S nm, .slice none 0 0] HXC.out ?_)
 have⟨w3,hw3⟩:=xq (wc.setRow (w,1) #[I 5,I 0,I 0,S nm, .slice none 0 0]);have hg3:wc.grownBy w3 (some (w,1)):=by rw[hw3];exact setRow_grown
 have hx3:Row w3 (w,1) 57 [I 5,I 0,I 0,S nm, .slice none 0 0]:=by rw[hw3];exact setRow_heap _ _ _ _ _ _ HXC.out
 have hb3:=HBC.kept hg3 sm0;have HC3:=gw0 HCC hg3;rw[←hw3];clear hw3 hg3 hS;refine QN_keep ⟨hb3.cell 3,hb3.cell 4,hx3.cell 0,hx3.cell 1,hx3.cell 2,hx3.cell 3,hx3.cell 4⟩ fun hS=> ?_;have HX3:=hqz9 hx3;clear hx3 hb3;refine lkN ?_;go_wp2;refine bodyPost_ret (only_results rfl HX3 kr0) rfl ?_;exact⟨rfl,HC3⟩
set_option maxRecDepth 100000 in
set_option maxHeartbeats 2000000 in
theorem only_read (op n:Int) (nm:Str) (av:Value) (w:World):
  CR 240 #[.agg #[I 7,I op,I n,S nm,av]] w (.tuple #[.agg #[I 7,I 0,I 0,S [], .slice none 0 0],I 0, .bool true]):=by
 go_enter Tryz.func240,Tryz.ntmps240;go_upto_region 2 with(refine sr 57 (.tmp 2) (.tmp 7) (w.heap.size+1) eZ ha0 ?_)
 obtain⟨w1,hw1⟩:∃w1,w1=((w.alloc (.cells #[I 7,I op,I n,S nm,av] 57)).alloc (.cells eZ 57)).setRow (w,1) #[I 7,I 0,I 0,S [], .slice none 0 0]:=⟨_,rfl⟩;have hb1:Below w w w1:=by rw[hw1];exact((below_a1 w _).alloc sm0 _).grown setRow_grown so0 sx0
 have hB:Row w1 w 57 [I 7,I op,I n,S nm,av]:=by rw[hw1];exact(setRow_other _ _ _ _ om0).trans (ho0 hn0)
 have hX:Row w1 (w,1) 57 [I 7,I 0,I 0,S [], .slice none 0 0]:=by rw[hw1];exact setRow_heap _ _ _ _ _ _ ha0
 rw[←hw1];clear hw1;have b0:=hB.k0;have x0:=hX.k0;have x1:=hX.k1;have x2:=hX.k2;have x3:=hX.k3;have x4:=hX.k4;have HX:=hqz9 hX;have HB1:=hqz9 hb1;clear hB hX hb1;go_wp2_with (refine sr 57 (.tmp 2) (.tmp 86) (w.heap.size+1) #[I 7,I 0,I 0,S [], .slice none 0 0] HX.out ?_)
 refine bodyPost_ret (only_results rfl (setRow_heap _ _ _ _ _ _ HX.out) kr0) rfl ?_;exact⟨rfl,HB1.grown setRow_grown HB1.size sx0⟩
end
section
open Go.RowKit Go.Shelf
attribute [local go_sem] Oper.semAt_some
abbrev eB (e:LE) (av:Value):Array Value:= #[I e.kind,I e.op,I e.n,S e.name,av]
def onlyE (e:LE):Prop:=
 (e.kind=1∧0≤e.n∧e.op=0∧e.name= []∧e.args.length=0)∨
 (e.kind=2∧(Asc e.name∧isName e.name=true)∧e.op=0∧e.n=0∧e.args.length=0)∨
 (e.kind=3∧(e.op=17∨e.op=18∨e.op=19)∧e.n=0∧e.name= []∧e.args.length=1)∨
 (e.kind=4∧(1≤e.op∧e.op≤16)∧e.n=0∧e.name= []∧e.args.length=2)∨
 (e.kind=5∧(Asc e.name∧isName e.name=true)∧e.op=0∧e.n=0∧e.args.length≤6)∨
 (e.kind=6∧(Asc e.name∧isName e.name=true)∧e.op=0∧e.n=0∧e.args.length=1)∨
 (e.kind=7∧e.op=0∧e.n=0∧e.name= []∧e.args.length=0)
def okE:Nat→LE→Prop
 |0,_=>False
 |d+1,e=>onlyE e∧∀x∈e.args,okE d x
theorem levelI_pos {op:Int} (h:1≤op∧op≤16):0<levelI op:=by
 unfold levelI
 repeat' split
 all_goals omega
theorem RE.ev {d:Nat} {B:Nat→Prop} {W:World} {C:Nat→Value} {e:LE} (h:RE d B W C e):agg5 C=eV e (C 4)∧EX B W (C 4) e:=by
 cases d with
 |zero=>exact h.elim
 |succ d=>
  obtain⟨h0,h1,h2,h3,h4⟩:=h;exact⟨by simp only[agg5,eV];rw[h0,h1,h2,h3],d,h4⟩
theorem EX.below {B:Nat→Prop} {w w':World} {av:Value} {e:LE} (h:EX B w av e) (hb:Below w w w'):EX B w' av e:=h.grown (below_grown hb none) nx0
theorem RE.below {d:Nat} {B:Nat→Prop} {w w':World} {C:Nat→Value} {e:LE} (hb:Below w w w') (h:RE d B w C e):RE d B w' C e:=h.grown d (below_grown hb none) nx0
end
section
open Go.RowKit Go.Shelf
attribute [local go_sem] Oper.semAt_some
def Names (l:List Str):Prop:=∀x∈l,Asc x∧isName x=true
end
end Go.Proofs.YtngglbakkedaiaaGreatDoor
