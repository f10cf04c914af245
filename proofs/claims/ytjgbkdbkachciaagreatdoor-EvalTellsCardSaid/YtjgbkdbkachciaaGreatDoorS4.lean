import Derived.Test.YtjgbkdbkachciaaGreatDoorR7
set_option linter.all false
namespace Go.Proofs.YtjgbkdbkachciaaGreatDoor
set_option maxRecDepth 100000
set_option maxHeartbeats 16000000
section
open Go.RowKit Go.Shelf
attribute [local go_sem] Oper.semAt_some
def A_ (W:World) (tb o:Nat) (ts:List Tok):Prop:=∀(i:Nat) (t:Tok),ts[i]? =some t->∀j,j<4->W.cell? ⟨tb,o+i*4+j,none⟩=(wR t)[j]?
def PS (W:World) (pb tb:Nat) (ts:List Tok):Prop:=∃o c,ts.length<=c/\W.heap[pb]? =some (.cells #[.slice (some ⟨tb,o,none⟩) ts.length c] 117 (0,0))/\tb≠pb/\A_ W tb o ts
theorem A_.ext {W W':World} {tb o:Nat} {ts:List Tok} {row:Option Nat} (h:A_ W tb o ts) (hg:W.grownBy W' row) (hr:some tb≠row):A_ W' tb o ts:=λi t ht j hj=>by
 have h1:=h i t ht j hj
 have:j<(wR t).length:=hj
 rw[ah this]at h1|-
 exact aS h1 hg hr
theorem PS.ext {W W':World} {pb tb:Nat} {ts:List Tok} (h:PS W pb tb ts) (hb:Below W W W'):PS W' pb tb ts:=by
 obtain⟨o,c,h1,h2,h3,h4⟩:=h;exact⟨o,c,h1,(hb.block pb (aD h2).1).trans h2,h3,h4.ext (bX hb none) aH⟩
theorem PS.lt {W:World} {pb tb:Nat} {ts:List Tok} (h:PS W pb tb ts):pb<W.heap.size:=by
 obtain⟨o,c,h1,h2,h3,h4⟩:=h;exact(aD h2).1
theorem PS.zA {W:World} {pb tb:Nat} {t:Tok} {ts:List Tok} (h:PS W pb tb (t::ts)):tb<W.heap.size:=by
 obtain⟨o,c,h1,h2,h3,h4⟩:=h;have:=h4 0 t rfl 0 aG;exact World.block_lt_of_cell? W (tb,o+0*4+0) this
def PG (w:World) (pb tb:Nat) (ts:List Tok) (w':World):Prop:=w.grownBy w' (some pb)/\PS w' pb tb ts
theorem PG.trans {a b c:World} {pb tb:Nat} {ts us:List Tok} (h:PG a pb tb ts b) (k:PG b pb tb us c):PG a pb tb us c:=⟨pN h.1 k.1,k.2⟩
theorem PG.below {a b c:World} {pb tb:Nat} {ts:List Tok} (h:PG a pb tb ts b) (hb:Below b b c):PG a pb tb ts c:=⟨pN h.1 (bX hb _),h.2.ext hb⟩
theorem PG.start {a b:World} {pb tb:Nat} {ts:List Tok} (h:PS a pb tb ts) (hb:Below a a b):PG a pb tb ts b:=⟨bX hb _,h.ext hb⟩
theorem E5 (pb tb:Nat) (t:Tok) (r:List Tok) (w:World) (h:PS w pb tb (t::r)):
  CR 70 #[.pointer (some ⟨pb,0,none⟩)] w (Ua t):=by
 obtain⟨o,c,h1,h2,h3,h4⟩:=h;have hpl:pb<w.heap.size:=(aD h2).1;have t0:=h4 0 t rfl 0 aG;have t1:=h4 0 t rfl 1 aG;have t2:=h4 0 t rfl 2 aG;have t3:=h4 0 t rfl 3 aG;have hl:∀x v,w.cell? ⟨tb,x,none⟩=some v->(w.alloc (.cells #[I 0,S [],I 0,I 0] 119)).cell? ⟨tb,x,none⟩=some v:=λx v hv=>((cm w _).cell (p:=⟨tb,x,none⟩) (World.block_lt_of_cell? _ _ hv)).trans hv;simp only[wR,ag,af,Nat.zero_mul,aA]at t0 t1 t2 t3;replace t0:=hl _ _ t0;replace t1:=hl _ _ t1;replace t2:=hl _ _ t2;replace t3:=hl _ _ t3;have c0:(w.alloc (.cells #[I 0,S [],I 0,I 0] 119)).cell? ⟨pb,0,none⟩=some (.slice (some ⟨tb,o,none⟩) (r.length+1) c):=by
  rw[cell_of_block (ho0 h2)];rfl
 have hrl:(0:Int)<(r.length:Int)+1:=aG;clear hl h2 h4;go_enter Tryz.func70,Tryz.ntmps70;go_wp2;refine bodyPost_ret (results_cell_row rfl _ _ w 119 _ (0,0) _ rfl hn0 Tryz.underlying119 rfl aL) rfl ?_;exact⟨rfl,cm _ _⟩
theorem J8 (pb tb:Nat) (t:Tok) (r:List Tok) (x:aK) (w:World) (h:PS w pb tb (t::r)):
  CR 112 #[.pointer (some (pb,0)),S x] w (.bool (fE t x)):=by
 have HN:=aF (E5 pb tb t r w h);clear h;obtain⟨tk,tt,tn,tl⟩:=t;rcases(by omega:tk=2\/tk=4\/(tk≠2/\tk≠4))with rfl|rfl|⟨h2,h4⟩
 case' inr.inr=>
  have h2':(tk==2)=false:=bu h2;have h4':(tk==4)=false:=bu h4;have H24:=aF (And.intro h2 h4);clear h2 h4
 all_goals
  go_enter Tryz.func112,Tryz.ntmps112;go_wp2_with (go_at_call 70;refine HN.mono ?_;rintro e w1⟨rfl,hb1⟩;have aI:=aF hb1;have hz1:=hb1.size;clear hb1)
  go_ret;refine⟨congrArg (λb=>Ending.returned (Value.bool b)) ?_,aI.out.trans ((cm _ _).mono hz1)⟩;unfold fE;have hb:(tt==x)=decide (tt=x):=by rw[Bool.eq_iff_iff];simp
  first|(simp [hb];done)|(simp [H24.1,H24.2];done)
theorem tG (pb tb:Nat) (t:Tok) (r:List Tok) (x:aK) (w:World) (h:PS w pb tb (t::r)) (hx:fE t x=false):
  CR 74 #[.pointer (some (pb,0)),S x] w (.bool false):=by
 have HI:=aF (J8 pb tb t r x w h);have HX:=aF hx;clear h hx;go_enter Tryz.func74,Tryz.ntmps74;go_wp2_with (go_at_call 112;refine aN HI λw1 aI=> ?_;rw[HX.out])
 go_ret;exact⟨rfl,aI⟩
theorem A_.tail {W:World} {tb o:Nat} {t:Tok} {r:List Tok} (h:A_ W tb o (t::r)):A_ W tb (o+4) r:=λi x hx j hj=>by
 have:=h (i+1) x (by simpa using hx) j hj
 rw[<-this]
 congr 2
 omega
theorem PG.drop {w w1:World} {pb tb:Nat} {t:Tok} {r:List Tok} {o c:Nat} (hb:Below w w w1) (_hpl:pb<w.heap.size) (h1:(t::r).length<=c) (h2:w1.heap[pb]? =some (.cells #[.slice (some (tb,o)) (t::r).length c] 117 (0,0))) (h3:tb≠pb) (h4:A_ w1 tb o (t::r)):
  PG w pb tb r (w1.setCell (pb,0) (.slice (some (tb,o+4)) r.length (c - 1))):=by
 have hg:=bO w1 pb 0 (.slice (some (tb,o+4)) r.length (c - 1));refine⟨pN (bX hb _) hg,o+4,c - 1,by simp at h1;omega, ?_,h3,h4.tail.ext hg (by simp;exact h3)⟩;have hr:Row w1 pb 117 [.slice (some (tb,o)) (t::r).length c]:=h2;have:=hr.set 0 (.slice (some (tb,o+4)) r.length (c - 1));exact this
theorem B_ (pb tb:Nat) (t:Tok) (r:List Tok) (x:aK) (w:World) (h:PS w pb tb (t::r)) (hx:fE t x=true) (hr:r≠ []):
  Calls Tryz.prog 74 #[.pointer (some (pb,0)),S x] w λe w'=>e= .returned (.bool true)/\PG w pb tb r w':=by
 have hpl:=h.lt;have hrp:0<r.length:=List.length_pos_iff.2 hr;clear hr;have HI:=aF (J8 pb tb t r x w h);have HP:=aF h;have HX:=aF hx;clear h hx;go_enter Tryz.func74,Tryz.ntmps74;go_upto_region 3 with(go_at_call 112;refine aN HI λw1 aI=> ?_;rw[HX.out];have iy:=aF (HP.ext aI))
 obtain⟨o,c,h1,h2,h3,h4⟩:=iy.out;have c0:=cell_of_block h2 0;have f0:w1.frozen? (pb,0)=false:=Row.frozen (cs:= [.slice (some (tb,o)) (t::r).length c]) h2 0;simp only[List.getElem?_toArray,af,aq]at c0;have hc1:r.length+1<=c:=h1;have hcz:((r.length:Int)+1)<=(c:Int):=aG;have hc2: ¬c=1:=aG;have H2:=aF h2;have H4:=aF h4;have H3:=aF h3;clear h2 h4 h3 h1;go_wp2;go_ret;refine⟨rfl, ?_⟩;exact PG.drop aI hpl (by simpa using hc1) H2.out H3.out H4.out
theorem ajf (s l a b:Value) (w:World):(Instr.field 160 (.agg #[s,l,a,b]) 0).run Tryz.prog w= .ok s w:=aL
theorem ajg (s l a b:Value) (w:World):(Instr.field 160 (.agg #[s,l,a,b]) 1).run Tryz.prog w= .ok l w:=aL
theorem JW (op:Int) (w:World):Calls Tryz.prog 267 #[I op] w λe w'=>(∃b:Bool,e= .returned (.tuple #[S (rF op), .bool b]))/\Below w w w':=by
 have IU:=ajf;go_enter Tryz.func267,Tryz.ntmps267;go_wp2_with (go_at_call 105;refine aN (NG op w) λw1 aI=> ?_;rw[show wM op= .agg #[S (rF op),I (nT op),rL (xQ op),rL (wL op)]from rfl])
 all_goals
  go_ret2;exact⟨⟨_,rfl⟩,aI⟩
theorem JK (op:Int) (w:World):CR 144 #[I op] w (I (nT op)):=by
 have IU:=ajg;go_enter Tryz.func144,Tryz.ntmps144;go_wp2_with (go_at_call 105;refine aN (NG op w) λw1 aI=> ?_;rw[show wM op= .agg #[S (rF op),I (nT op),rL (xQ op),rL (wL op)]from rfl])
 go_ret;exact⟨rfl,aI⟩
def qh:List aK->List Tok->Option (List Tok)
 | [],ts=>some ts
 |_::_,[]=>none
 |x::xs,t::r=>if fE t x then qh xs r else none
theorem ahW {xs:List aK} {ts us:List Tok} (h:qh xs ts=some us) (hu:us≠ []):ts≠ []:=by
 rintro rfl;cases xs with
 |nil=>cases h;exact hu rfl
 |cons x xs=>cases h
theorem ais {w w':World} {sb pb:Nat} {t:TypeId} {cs:List Value} (h:Row w sb t cs) (hg:w.grownBy w' (some pb)) (hne:sb≠pb):Row w' sb t cs:=h.kept hg (by simpa using hne)
theorem B6 (pb tb sb n c:Nat) (xs:List aK) (ts us:List Tok) (w:World) (h:PS w pb tb ts) (hs:Row w sb 9 (xs.map S)) (hn:n=xs.length) (hw:qh xs ts=some us) (hu:us≠ []) (hl:xs.length<=1000):
  Calls Tryz.prog 72 #[.pointer (some (pb,0)), .slice (some (sb,0)) n c] w λe w'=>(∃v,e= .returned v)/\PG w pb tb us w':=by
 have hne:sb≠pb:=λe=>by
  obtain⟨o,c,h1,h2,h3,h4⟩:=h;have h5:w.heap[pb]? =some (.cells (xs.map S).toArray 9 (0,0)):=by rw[<-e];exact hs
  have h6:=h2.symm.trans h5;simp at h6
 have HP:=aF h;have HS:=aF hs;have HW:=aF hw;subst hn;clear h hs hw;go_enter Tryz.func72,Tryz.ntmps72;go_wp2;go_loopg [8] xs.length (λgh v wr=>∃(i:Nat) (rest:List Tok),gh+i=xs.length/\v=I i/\PG w pb tb rest wr/\Hid (qh (xs.drop i) rest=some us))
 case atStart=>exact⟨0,ts,rfl,rfl,PG.start HP (Below.refl _ _),aF (by simpa using HW.out)⟩
 case round=>
  obtain⟨i,rest,hg,rfl,iE,HX⟩:=hrel;obtain⟨wo,rfl⟩:=xq wr;have HG:=aF iE;have WL:=ais HS iE.1 hne;clear iE;by_cases hlt:i<xs.length
  ·have bT:(i:Int)<(xs.length:Int):=aG;have⟨x,hx⟩:=xq (xs[i]);have hd:xs.drop i=x::xs.drop (i+1):=by rw[hx];exact List.drop_eq_getElem_cons hlt
   have hc:=WL.cell i;rw[List.getElem?_map,ah hlt,<-hx]at hc;simp only[Option.map_some]at hc;have hX:=HX.out;rw[hd]at hX;cases rest with
   |nil=>cases hX
   |cons t r=>
    rw[qh]at hX;split at hX
    ·next htk=>
     have j_:=ahW hX hu;have fL:=aF (B_ pb tb t r x wo HG.2 htk j_);have qQ:=aF hX;clear hX hd hx HX htk WL;go_wp2_with (go_at_call 74;refine aN fL λw1 iy=> ?_)
     go_roundg (xs.length - (i+1))
     case measure=>omega
     case rel=>exact⟨i+1,r,aG,by go_num,HG.out.trans iy.out,qQ⟩
    ·cases hX
  ·have hX:=HX.out;rw[List.drop_of_length_le aG]at hX;have HRU:=aF (show rest=us by cases hX;rfl);clear hX WL HX;go_wp2;go_end0;exact⟨⟨_,rfl⟩,by rw[<-HRU.out];exact HG.out⟩
theorem N9 (a b c d:Value) (w:World):(Instr.field 119 (.agg #[a,b,c,d]) 0).run Tryz.prog w= .ok a w:=aL
theorem ajb (a b c d:Value) (w:World):(Instr.field 119 (.agg #[a,b,c,d]) 1).run Tryz.prog w= .ok b w:=aL
theorem ai_ (a b c d:Value) (w:World):(Instr.field 119 (.agg #[a,b,c,d]) 2).run Tryz.prog w= .ok c w:=aL
theorem ahd {a b c:World} {row:Option Nat} {k:Nat} (h:a.grownBy b row) (hr:a.heap.size<=k) (hg:b.grownBy c (some k)):a.grownBy c row:=
 ⟨hg.os.trans h.os,hg.tape.trans h.tape,hg.output.trans h.output,az h.size hg.size,λi hi hne=>(hg.block i (aB hi h.size) ct).trans (h.block i hi hne)⟩
theorem PG.new {a b c:World} {pb tb row:Nat} {ts:List Tok} (h:PG a pb tb ts b) (hr:a.heap.size<=row) (hg:b.grownBy c (some row)) (ht:tb<a.heap.size) (hpb:pb<a.heap.size):PG a pb tb ts c:=by
 obtain⟨h1,o,c',h2,h3,h4,h5⟩:=h;exact⟨ahd h1 hr hg,o,c',h2,tZ hg h3 ct,h4,h5.ext hg ct⟩
theorem Y7 (pb tb:Nat) (t:Tok) (r:List Tok) (w:World) (h:PS w pb tb (t::r)) (hr:r≠ []):
  Calls Tryz.prog 75 #[.pointer (some (pb,0)),I t.kind] w λe w'=>e= .returned (Ua t)/\PG w pb tb r w':=by
 have hpl:=h.lt;have htl:=h.zA;have hrp:0<r.length:=List.length_pos_iff.2 hr;clear hr;have HP:=aF h;have HN:=aF (E5 pb tb t r _ (h.ext (cm w (.cells #[I 0,S [],I 0,I 0] 119))));have hkk:(t.kind !=t.kind)=false:=aH;clear h;go_enter Tryz.func75,Tryz.ntmps75;go_upto_region 4 with(go_at_call 70;refine HN.mono ?_;rintro e w1⟨rfl,hb1⟩;rw[World.size_alloc]at hb1;have hz1:=hb1.size;rw[World.size_alloc]at hz1;have hk1:=(hb1.block w aG).trans hn0;have pI:=aF hk1;have aI:=aF ((cm w _).trans (hb1.mono aG));clear hb1 hk1)
 have⟨w2,hw2⟩:=xq (w1.alloc (.cells #[.int .i64 t.kind, .string ⟨t.text.toArray⟩, .int .i64 t.n, .int .i64 t.line] 119));have hb2:=gI hw2;have hk2:=dZ hw2;rw[<-hw2];have Un:=aI.out.trans (hb2.mono aI.size);have abQ:=(hb2.block w aG).trans pI.out;have hz2:=hb2.size;obtain⟨o,c,h1,h2,h3,h4⟩:=HP.ext Un;have c0:=cell_of_block h2 0;have f0:w2.frozen? (pb,0)=false:=Row.frozen (cs:= [.slice (some (tb,o)) (t::r).length c]) h2 0;simp only[List.getElem?_toArray,af,aq]at c0;have hc1:r.length+1<=c:=h1;have hcz:((r.length:Int)+1)<=(c:Int):=aG;have hc2: ¬c=1:=aG;have alN:=aF Un;have alO:=aF abQ;have jr:=aF hk2;have H2:=aF h2;have H4:=aF h4;have H3:=aF h3;clear h2 h4 h3 h1 hw2 hb2 hk2 Un abQ;go_upto_region 5 with(fail)
 have⟨w3,hw3⟩:=xq (w2.setCell (pb,0) (.slice (some (tb,o+4)) r.length (c - 1)));have iE:PG w pb tb r w3:=by rw[hw3];exact PG.drop alN hpl (by simpa using hc1) H2.out H3.out H4.out
 have hg3:w2.grownBy w3 (some pb):=by rw[hw3];exact bO _ _ _ _
 have hk3:=tZ hg3 jr ct;have abR:=tZ hg3 alO ct;rw[<-hw3];have gF:=aF iE;have abS:=aF abR;have e0:=cell_of_block hk3 0;have e1:=cell_of_block hk3 1;have e2:=cell_of_block hk3 2;have e3:=cell_of_block hk3 3;simp only[List.getElem?_toArray,ag,af]at e0 e1 e2 e3;clear hw3 iE hk3 abR c0 f0 hg3;go_wp2_with (refine wpList_store_row rfl 119 (.tmp 4) (.tmp 22) rfl w.heap.size _ rfl rfl 119 _ abS.out aL fV sv0 ?_)
 refine bodyPost_ret (results_cell_row rfl _ _ w 119 _ (0,0) _ rfl (setRow_heap _ _ _ _ _ _ abS.out) Tryz.underlying119 rfl aL) rfl ?_;exact⟨rfl,PG.new gF (row:=w.heap.size) fQ ⟨rfl,rfl,rfl,aH,λi _ hi=>setRow_other _ _ _ _ (λe=>hi (by rw[e]))⟩ htl hpl⟩
theorem Yx (pb tb:Nat) (t:Tok) (r:List Tok) (w:World) (h:PS w pb tb (t::r)) (hr:r≠ []) (hk:t.kind=1):
  Calls Tryz.prog 73 #[.pointer (some (pb,0))] w λe w'=>e= .returned (S t.text)/\PG w pb tb r w':=by
 have hc:=Y7 pb tb t r w h hr;rw[hk]at hc;have HC:=aF hc;have IU:=ajb;clear hc h hr hk;go_enter Tryz.func73,Tryz.ntmps73;go_wp2_with (go_at_call 75;refine aN HC λw1 iy=> ?_)
 go_ret;exact⟨rfl,iy⟩
theorem Yw (t:Tok) (k:Nat) (op:Int):wN t (k+1) op=if fE t (rF op)then op else wN t k (op+1):=rfl
theorem X4 (lv:Int) (t:Tok) (k:Nat) (op:Int):ue lv t (k+1) op=if(fE t (rF op)&&decide (lv<=nT op))=true then op else ue lv t k (op+1):=rfl
theorem ag5 (pb tb:Nat) (t:Tok) (r:List Tok) (w:World) (h:PS w pb tb (t::r)) (hr:r≠ []):
  Calls Tryz.prog 265 #[.pointer (some (pb,0))] w λe w'=>e= .returned (I (wN t 3 17))/\PG w pb tb (if wN t 3 17=0 then t::r else r) w':=by
 have⟨R,hR⟩:=xq (wN t 3 17);rw[<-hR];obtain⟨us,Wz⟩:∃us,us=(if R=0 then t::r else r):=⟨_,rfl⟩;rw[<-Wz];have HUS:=aF Wz;have HP:=aF h;have pX:=aF hR;have tR:=aF hr;clear h hR hr Wz;go_enter Tryz.func265,Tryz.ntmps265;go_wp2;go_loopg [3] 3 (λgh v wr=>∃i:Nat,gh+i=3/\v=I (17+(i:Int))/\Below w w wr/\Hid (wN t gh (17+(i:Int))=R))
 case atStart=>exact⟨0,rfl,rfl,Below.refl _ _,aF pX.out.symm⟩
 case round=>
  obtain⟨i,hg,rfl,hb,HX⟩:=hrel;obtain⟨wo,rfl⟩:=xq wr;have HB:=aF hb;have tD:=aF (HP.ext hb);clear hb;obtain⟨op,hop⟩:∃op:Int,op=17+(i:Int):=⟨_,rfl⟩;rw[<-hop]at HX|-;have alR:17<=op:=aG;have alS:op<=20:=aG
  by_cases hlt:i<3
  ·have bT:op<=19:=aG;obtain⟨g1,rfl⟩:∃g1,gk=g1+1:=⟨gk - 1,aG⟩;have hX:=HX.out;rw[Yw]at hX;have HO:=aF hop;cases htk:fE t (rF op)
   ·rw[htk]at hX;simp only[Bool.false_eq_true,if_false]at hX;have fL:=aF htk;have aY:=aF hX;clear hX HX htk hop;go_wp2_with (first|(go_at_call 267;refine(JW op wo).mono ?_;rintro e w1⟨⟨b1,rfl⟩,hb1⟩;have aI:=aF (HB.out.trans (hb1.mono HB.size));have iy:=aF (tD.ext hb1);clear hb1)|(go_at_call 74;refine aN (tG pb tb t r (rF op) w1 iy fL) λw2 hb2=> ?_;have aM:=aF (aI.out.trans (hb2.mono aI.size))))
    go_roundg g1
    case measure=>omega
    case rel=>exact⟨i+1,aG,by rw[HO.out];go_num,aM,by rw[show 17+((i+1:Nat):Int)=op+1 by have:=HO.out;omega];exact aY⟩
   ·rw[htk]at hX;simp only[if_true]at hX;have fL:=aF htk;have aY:=aF hX;clear hX HX htk hop;go_wp2_with (first|(go_at_call 267;refine(JW op wo).mono ?_;rintro e w1⟨⟨b1,rfl⟩,hb1⟩;have aI:=aF (HB.out.trans (hb1.mono HB.size));have iy:=aF (tD.ext hb1);clear hb1)|(go_at_call 74;refine aN (B_ pb tb t r (rF op) w1 iy fL tR) λw2 eX=> ?_))
    go_ret;refine⟨by rw[aY.out];rfl, ?_⟩;rw[HUS.out,if_neg (by rw[<-aY.out];omega)];exact⟨pN (bX aI _) eX.1,eX.2⟩
  ·have bT: ¬op<=19:=aG;obtain rfl:gk=0:=aG;have aY:=aF (show(0:Int)=R from HX.out);clear HX hop;go_wp2;go_ret;refine⟨by rw[<-aY.out];rfl, ?_⟩;rw[HUS.out,if_pos aY.out.symm];exact PG.start HP HB
theorem Yn (pb tb:Nat) (lv:Int) (t:Tok) (r:List Tok) (w:World) (h:PS w pb tb (t::r)):
  CR 258 #[.pointer (some (pb,0)),I lv] w (I (ue lv t 16 1)):=by
 have⟨R,hR⟩:=xq (ue lv t 16 1);rw[<-hR];have HP:=aF h;have pX:=aF hR;clear h hR;go_enter Tryz.func258,Tryz.ntmps258;go_wp2;go_loopg [5] 16 (λgh v wr=>∃i:Nat,gh+i=16/\v=I (1+(i:Int))/\Below w w wr/\Hid (ue lv t gh (1+(i:Int))=R))
 case atStart=>exact⟨0,rfl,rfl,Below.refl _ _,aF pX.out.symm⟩
 case round=>
  obtain⟨i,hg,rfl,hb,HX⟩:=hrel;obtain⟨wo,rfl⟩:=xq wr;have HB:=aF hb;have tD:=aF (HP.ext hb);clear hb;obtain⟨op,hop⟩:∃op:Int,op=1+(i:Int):=⟨_,rfl⟩;rw[<-hop]at HX|-;have alR:1<=op:=aG;have alS:op<=17:=aG
  by_cases hlt:i<16
  ·have bT:op<=16:=aG;obtain⟨g1,rfl⟩:∃g1,gk=g1+1:=⟨gk - 1,aG⟩;have hX:=HX.out;rw[X4]at hX;have HO:=aF hop;cases htk:fE t (rF op)
   ·rw[htk]at hX;simp only[Bool.false_and,Bool.false_eq_true,if_false]at hX;have fL:=aF htk;have aY:=aF hX;clear hX HX htk hop;go_wp2_with (first|(go_at_call 267;refine(JW op wo).mono ?_;rintro e w1⟨⟨b1,rfl⟩,hb1⟩;have aI:=aF (HB.out.trans (hb1.mono HB.size));have iy:=aF (tD.ext hb1);clear hb1)|(go_at_call 112;refine aN (J8 pb tb t r (rF op) w1 iy) λw2 hb2=> ?_;rw[fL.out];have aM:=aF (aI.out.trans (hb2.mono aI.size))))
    go_roundg g1
    case measure=>omega
    case rel=>exact⟨i+1,aG,by rw[HO.out];go_num,aM,by rw[show 1+((i+1:Nat):Int)=op+1 by have:=HO.out;omega];exact aY⟩
   ·rw[htk]at hX;simp only[Bool.true_and,decide_eq_true_eq]at hX;by_cases L3:lv<=nT op
    ·rw[if_pos L3]at hX;have fL:=aF htk;have aY:=aF hX;clear hX HX htk hop;go_wp2_with (first|(go_at_call 267;refine(JW op wo).mono ?_;rintro e w1⟨⟨b1,rfl⟩,hb1⟩;have aI:=aF (HB.out.trans (hb1.mono HB.size));have iy:=aF (tD.ext hb1);clear hb1)|(go_at_call 112;refine aN (J8 pb tb t r (rF op) w1 iy) λw2 hb2=> ?_;rw[fL.out];have aM:=aF (aI.out.trans (hb2.mono aI.size)))|(go_at_call 144;refine aN (JK op w2) λw3 hb3=> ?_;have aW:=aF (aM.out.trans (hb3.mono aM.size))))
     go_ret;exact⟨by rw[<-aY.out];rfl,aW⟩
    ·rw[if_neg L3]at hX;have fL:=aF htk;have aY:=aF hX;clear hX HX htk hop;go_wp2_with (first|(go_at_call 267;refine(JW op wo).mono ?_;rintro e w1⟨⟨b1,rfl⟩,hb1⟩;have aI:=aF (HB.out.trans (hb1.mono HB.size));have iy:=aF (tD.ext hb1);clear hb1)|(go_at_call 112;refine aN (J8 pb tb t r (rF op) w1 iy) λw2 hb2=> ?_;rw[fL.out];have aM:=aF (aI.out.trans (hb2.mono aI.size)))|(go_at_call 144;refine aN (JK op w2) λw3 hb3=> ?_;have aW:=aF (aM.out.trans (hb3.mono aM.size))))
     go_roundg g1
     case measure=>omega
     case rel=>exact⟨i+1,aG,by rw[HO.out];go_num,aW,by rw[show 1+((i+1:Nat):Int)=op+1 by have:=HO.out;omega];exact aY⟩
  ·have bT: ¬op<=16:=aG;obtain rfl:gk=0:=aG;have aY:=aF (show(0:Int)=R from HX.out);clear HX hop;go_wp2;go_ret;exact⟨by rw[<-aY.out];rfl,HB⟩
end
section
open Go.RowKit Go.Shelf
def aP {α:Type} (B:Nat->Prop) (k:Nat) (R:World->(Nat->Value)->α->Prop) (w:World) (v:Value) (l:List α):Prop:=
 ∃a c,v= .slice a l.length c/\l.length<=1000000000/\(l= []\/∃b o,a=some ⟨b,o,none⟩/\B b/\
  ∀i x,l[i]? =some x->∃C:Nat->Value,(∀j,j<k->w.cell? ⟨b,o+i*k+j,none⟩=some (C j))/\R w C x)
theorem aP.grown {α:Type} {B:Nat->Prop} {k:Nat} {R:World->(Nat->Value)->α->Prop} {w w':World} {row:Option Nat} (hg:w.grownBy w' row) (hB:∀r,row=some r-> ¬B r) (hR:∀C x,R w C x->R w' C x) {v:Value} {l:List α} (h:aP B k R w v l):aP B k R w' v l:=by
 obtain⟨a,c,h1,h2,h3⟩:=h;refine⟨a,c,h1,h2,h3.imp (λh=>h) ?_⟩;rintro⟨b,o,h4,h5,h6⟩;refine⟨b,o,h4,h5,λi x hx=> ?_⟩;obtain⟨C,hC,hr⟩:=h6 i x hx;exact⟨C,λj hj=>aS (hC j hj) hg (λe=>hB b e.symm h5),hR C x hr⟩
theorem aP.weak {α:Type} {B B':Nat->Prop} {k:Nat} {R R':World->(Nat->Value)->α->Prop} {w:World} (hB:∀b,B b->B' b) (hR:∀C x,R w C x->R' w C x) {v:Value} {l:List α} (h:aP B k R w v l):aP B' k R' w v l:=by
 obtain⟨a,c,h1,h2,h3⟩:=h;refine⟨a,c,h1,h2,h3.imp (λh=>h) ?_⟩;rintro⟨b,o,h4,h5,h6⟩;refine⟨b,o,h4,hB b h5,λi x hx=> ?_⟩;obtain⟨C,hC,hr⟩:=h6 i x hx;exact⟨C,hC,hR C x hr⟩
theorem aP.nil {α:Type} (B:Nat->Prop) (k:Nat) (R:World->(Nat->Value)->α->Prop) (w:World):aP B k R w (.slice none 0 0) ([]:List α):=⟨none,0,rfl,aH, .inl rfl⟩
def RE:Nat->(Nat->Prop)->World->(Nat->Value)->LE->Prop
 |0,_,_,_,_=>False
 |d+1,B,W,C,e=>C 0=I e.kind/\C 1=I e.op/\C 2=I e.n/\C 3=S e.name/\aP B 5 (RE d B) W (C 4) e.args
theorem RE.grown:∀(d:Nat) {B:Nat->Prop} {w w':World} {row:Option Nat} (_:w.grownBy w' row) (_:∀r,row=some r-> ¬B r) {C:Nat->Value} {e:LE},RE d B w C e->RE d B w' C e
 |0,_,_,_,_,_,_,_,_,h=>h
 |d+1,_,_,_,_,hg,hB,_,_,⟨h0,h1,h2,h3,h4⟩=>⟨h0,h1,h2,h3,h4.grown hg hB λ_ _ h=>RE.grown d hg hB h⟩
theorem RE.weak:∀(d:Nat) {B B':Nat->Prop} {w:World} (_:∀b,B b->B' b) {C:Nat->Value} {e:LE},RE d B w C e->RE d B' w C e
 |0,_,_,_,_,_,_,h=>h
 |d+1,_,_,_,hB,_,_,⟨h0,h1,h2,h3,h4⟩=>⟨h0,h1,h2,h3,h4.weak hB λ_ _ h=>RE.weak d hB h⟩
theorem RE.succ:∀(d:Nat) {B:Nat->Prop} {w:World} {C:Nat->Value} {e:LE},RE d B w C e->RE (d+1) B w C e
 |0,_,_,_,_,h=>h.elim
 |d+1,_,_,_,_,⟨h0,h1,h2,h3,h4⟩=>⟨h0,h1,h2,h3,h4.weak (λ_ h=>h) λ_ _ h=>RE.succ d h⟩
theorem RE.le {d d':Nat} (h:d<=d') {B:Nat->Prop} {w:World} {C:Nat->Value} {e:LE} (hr:RE d B w C e):RE d' B w C e:=by
 induction h with
 |refl=>exact hr
 |step _ ih=>exact RE.succ _ ih
abbrev eV (e:LE) (av:Value):Value:= .agg #[I e.kind,I e.op,I e.n,S e.name,av]
def fW (base:Nat) (W:World) (av:Value) (e:LE):Prop:=∃d,aP (base<=·) 5 (RE d (base<=·)) W av e.args
theorem fW.grown {base:Nat} {w w':World} {row:Option Nat} {av:Value} {e:LE} (h:fW base w av e) (hg:w.grownBy w' row) (hr:∀r,row=some r->r<base):fW base w' av e:=by
 obtain⟨d,h⟩:=h;have hB:∀r,row=some r-> ¬(base<=r):=λr e=>by have:=hr r e;omega
 exact⟨d,h.grown hg hB λ_ _ h=>RE.grown d hg hB h⟩
theorem fW.mono {base base':Nat} {w:World} {av:Value} {e:LE} (h:fW base w av e) (hb:base'<=base):fW base' w av e:=by
 obtain⟨d,h⟩:=h;exact⟨d,h.weak (λb hb'=>az hb hb') λ_ _ h=>RE.weak d (λb hb'=>az hb hb') h⟩
theorem fW.slice {base:Nat} {w:World} {av:Value} {e:LE} (h:fW base w av e):∃a c,av= .slice a e.args.length c:=by
 obtain⟨d,a,c,h,_⟩:=h;exact⟨a,c,h⟩
theorem fW.nil {base:Nat} {w:World} {e:LE} (h:e.args= []):fW base w (.slice none 0 0) e:=⟨0,by rw[h];exact aP.nil _ _ _ _⟩
def l6 (e:LE) (av:Value):List Value:= [I e.kind,I e.op,I e.n,S e.name,av]
theorem fW.one {base g:Nat} {w:World} {e x:LE} {xv:Value} (hx:e.args= [x]) (hb:base<=g) (hrow:Row w g 31 (l6 x xv)) (h:fW base w xv x):fW base w (.slice (some (g,0)) 1 1) e:=by
 obtain⟨d,h⟩:=h;refine⟨d+1,some (g,0),1,by rw[hx];rfl,by rw[hx];simp, .inr ⟨g,0,rfl,hb,λi y hy=> ?_⟩⟩;rw[hx]at hy;obtain⟨rfl,rfl⟩:i=0/\y=x:=by
  cases i with
  |zero=>simp at hy;exact⟨rfl,hy.symm⟩
  |succ i=>simp at hy
 refine⟨λj=>(l6 y xv).getD j undef,λj hj=> ?_,rfl,rfl,rfl,rfl,h⟩;rw[hrow.cell];rcases(by omega:j=0\/j=1\/j=2\/j=3\/j=4)with rfl|rfl|rfl|rfl|rfl<;>rfl
theorem fW.two {base g:Nat} {w:World} {e x y:LE} {xv yv:Value} (hx:e.args= [x,y]) (hb:base<=g) (hrow:Row w g 31 (l6 x xv++l6 y yv)) (h:fW base w xv x) (k:fW base w yv y):fW base w (.slice (some (g,0)) 2 2) e:=by
 obtain⟨d,h⟩:=h;obtain⟨d',k⟩:=k;have h':=h.weak (B':=(base<=·)) (R':=RE (max d d') (base<=·)) (λ_ h=>h) (λ_ _ h=>RE.le (Nat.le_max_left d d') h);have k':=k.weak (B':=(base<=·)) (R':=RE (max d d') (base<=·)) (λ_ h=>h) (λ_ _ h=>RE.le (Nat.le_max_right d d') h);refine⟨max d d'+1,some (g,0),2,by rw[hx];rfl,by rw[hx];simp, .inr ⟨g,0,rfl,hb,λi z hz=> ?_⟩⟩;rw[hx]at hz;rcases(by cases i with
  |zero=>simp at hz;exact .inl ⟨rfl,hz.symm⟩
  |succ i=>cases i with
   |zero=>simp at hz;exact .inr ⟨rfl,hz.symm⟩
   |succ i=>simp at hz:(i=0/\z=x)\/(i=1/\z=y))with⟨rfl,rfl⟩|⟨rfl,rfl⟩
 ·refine⟨λj=>(l6 z xv).getD j undef,λj hj=> ?_,rfl,rfl,rfl,rfl,h'⟩;rw[hrow.cell];rcases(by omega:j=0\/j=1\/j=2\/j=3\/j=4)with rfl|rfl|rfl|rfl|rfl<;>rfl
 ·refine⟨λj=>(l6 z yv).getD j undef,λj hj=> ?_,rfl,rfl,rfl,rfl,k'⟩;rw[hrow.cell];rcases(by omega:j=0\/j=1\/j=2\/j=3\/j=4)with rfl|rfl|rfl|rfl|rfl<;>rfl
def gq (ts:List Tok):Prop:=∃e,ts.getLast? =some e/\e.kind=5
theorem gq.tail {t:Tok} {r:List Tok} (h:gq (t::r)) (hk:t.kind≠5):r≠ []/\gq r:=by
 obtain⟨e,h1,h2⟩:=h;cases r with
 |nil=>simp at h1;subst h1;exact absurd h2 hk
 |cons u r=>exact⟨aH,e,by simpa using h1,h2⟩
theorem Dw {t:Tok} {x:aK} (h:fE t x=true):t.kind≠5:=by
 unfold fE at h;simp only[Bool.and_eq_true,Bool.or_eq_true,decide_eq_true_eq]at h;omega
theorem X3 {lv:Int} {t:Tok}:∀(k:Nat) (op:Int),ue lv t k op≠0->t.kind≠5
 |0,op,h=>absurd rfl h
 |k+1,op,h=>by
  rw[X4]at h
  split at h
  ·next h1=>simp only[Bool.and_eq_true]at h1;exact Dw h1.1
  ·exact X3 k (op+1) h
theorem Yv {t:Tok}:∀(k:Nat) (op:Int),wN t k op≠0->t.kind≠5
 |0,op,h=>absurd rfl h
 |k+1,op,h=>by
  rw[Yw]at h
  split at h
  ·next h1=>exact Dw h1
  ·exact Yv k (op+1) h
theorem gq.want:∀{xs:List aK} {ts us:List Tok},gq ts->qh xs ts=some us->us≠ []/\gq us
 | [],ts,us,h,hw=>by
  cases hw
  refine⟨?_,h⟩
  rintro rfl
  obtain⟨e,h1,_⟩:=h
  cases h1
 |x::xs,[],us,h,hw=>by cases hw
 |x::xs,t::r,us,h,hw=>by
  rw[qh]at hw
  split at hw
  ·next ht=>exact gq.want (h.tail (Dw ht)).2 hw
  ·cases hw
mutual
def tF:Nat->List Tok->Option (LE×List Tok)
 |0,_=>none
 |_+1,[]=>none
 |k+1,t::r=>
  if wN t 3 17≠0 then(tF k r).map λp=>(.mk 3 (wN t 3 17) 0 [] [p.1],p.2)
  else if fE t [40]then match cF k 1 r with
   |some (e,us)=>(qh [[41]] us).map λr'=>(e,r')
   |none=>none
  else if fE t [114,101,97,100]then(qh [[40],[41]] r).map λr'=>(.mk 7 0 0 [] [],r')
  else if t.kind=3 then some (.mk 1 0 t.n [] [],r)
  else if t.kind=1 then nF k t.text r
  else none
def nF:Nat->aK->List Tok->Option (LE×List Tok)
 |0,_,_=>none
 |_+1,_,[]=>none
 |k+1,nm,t::r=>
  if fE t [40]then none
  else if fE t [91]then match cF k 1 r with
   |some (e,us)=>(qh [[93]] us).map λr'=>(.mk 6 0 0 nm [e],r')
   |none=>none
  else some (.mk 2 0 0 nm [],t::r)
def cF:Nat->Int->List Tok->Option (LE×List Tok)
 |0,_,_=>none
 |k+1,lv,ts=>match tF k ts with
  |some (e,r)=>lF k lv e r
  |none=>none
def lF:Nat->Int->LE->List Tok->Option (LE×List Tok)
 |0,_,_,_=>none
 |_+1,_,_,[]=>none
 |k+1,lv,e,t::r=>
  if ue lv t 16 1=0 then some (e,t::r)
  else match cF k (nT (ue lv t 16 1)+1) r with
   |some (f,r')=>lF k lv (.mk 4 (ue lv t 16 1) 0 [] [e,f]) r'
   |none=>none
end
def DT (w:World) (pb tb:Nat) (x:LE) (us:List Tok) (e:Ending) (w':World):Prop:=∃av,e= .returned (eV x av)/\fW w.heap.size w' av x/\PG w pb tb us w'
structure IP (k:Nat):Prop where
 t:∀(pb tb:Nat) (ts us:List Tok) (x:LE) (w:World),PS w pb tb ts->gq ts->tF k ts=some (x,us)->Calls Tryz.prog 257 #[.pointer (some ⟨pb,0,none⟩)] w (λe w'=>DT w pb tb x us e w'/\gq us)
 n:∀(pb tb:Nat) (nm:aK) (ts us:List Tok) (x:LE) (w:World),PS w pb tb ts->gq ts->nF k nm ts=some (x,us)->Calls Tryz.prog 266 #[.pointer (some ⟨pb,0,none⟩),S nm] w (λe w'=>DT w pb tb x us e w'/\gq us)
 c:∀(pb tb:Nat) (lv:Int) (ts us:List Tok) (x:LE) (w:World),PS w pb tb ts->gq ts->cF k lv ts=some (x,us)->Calls Tryz.prog 245 #[.pointer (some ⟨pb,0,none⟩),I lv] w (λe w'=>DT w pb tb x us e w'/\gq us)
end
section
open Go.RowKit Go.Shelf
attribute [local go_sem] Oper.semAt_some
theorem PG.pre {w w1 w2:World} {pb tb:Nat} {ts:List Tok} (hb:Below w w w1) (h:PG w1 pb tb ts w2):PG w pb tb ts w2:=⟨pN (bX hb _) h.1,h.2⟩
theorem bJ {w:World} {g:Nat} {cs:Array Value}:w.grownBy (w.setRow g cs) (some g):=⟨rfl,rfl,rfl,aH,λi _ hi=>setRow_other _ _ _ _ (λe=>hi (by rw[e]))⟩
theorem sJ {P:Program} {ops:Array Oper} {rest:List Oper} {o:Oper} {a:Act} {w:World} {Q:Exit->Act->World->Prop} (ty:TypeId) (x y:Operand) (_:o.op= .store ty x y) (h:wpList P ops Q (o::rest) a w):wpList P ops Q (o::rest) a w:=h
theorem sr {P:Program} {ops:Array Oper} {rest:List Oper} {o:Oper} {a:Act} {w:World} {Q:Exit->Act->World->Prop} {cells:Array Value} (ty:TypeId) (x y:Operand) (g:Nat) (old:Array Value) (hg:w.heap[g]? =some (.cells old ty (0,0))) (h:wpList P ops Q rest (a.put o.dst undef) (w.setRow g cells))
  (ho:o.op= .store ty x y:=by rfl) (hgd:o.guard=none:=by rfl) (hx:a.eval x= .pointer (some (g,0)):=by rfl) (hy:a.eval y= .agg cells:=by rfl) (hi:(P.info? ty).map (·.size)=some cells.size:=by kernel_rfl)
  (hold:old.size=cells.size:=by rfl) (h1:cells.all (·.oneCell')=true:=by simp [Value.oneCell']):wpList P ops Q (o::rest) a w:=wpList_store_row hgd ty x y ho g cells hx hy ty old hg hi hold h1 h
theorem CL {w w4:World} {pb tb:Nat} {us:List Tok} {x:LE} {av:Value} {cs:Array Value} (iE:PG w pb tb us w4) (_hk:w4.heap[w.heap.size]? =some (.cells cs 31 (0,0))) (cX:fW (w,1) w4 av x) (ht:tb<w.heap.size) (hp:pb<w.heap.size):
  DT w pb tb x us (.returned (eV x av)) (w4.setRow w #[I x.kind,I x.op,I x.n,S x.name,av]):=
 ⟨av,rfl,(cX.grown bJ bh).mono aG,iE.new fQ bJ ht hp⟩
abbrev eZ:Array Value:= #[.int .i64 0, .int .i64 0, .int .i64 0, .string ⟨#[]⟩, .slice none 0 0]
theorem YJ {w w1 w2:World} {o:Obj} {row:Option Nat} (hw:w1=w.alloc o) (hg:w1.grownBy w2 row) (hr:∀r,row=some r->r<w.heap.size):w2.heap[w.heap.size]? =some o:=by
 subst hw;exact tZ hg hn0 (λe=>by have:=hr _ e.symm;omega)
theorem N0 {k:Nat} (ih:IP k) (pb tb:Nat) (ts us:List Tok) (x:LE) (w:World) (h:PS w pb tb ts) (he:gq ts) (hx:cF k 1 ts=some (x,us)):
  Calls Tryz.prog 226 #[.pointer (some (pb,0))] w (λe w'=>DT w pb tb x us e w'/\gq us):=by
 obtain⟨t,r,rfl⟩:∃t r,ts=t::r:=by
  obtain⟨e,h1,_⟩:=he;cases ts with
  |nil=>cases h1
  |cons t r=>exact⟨t,r,rfl⟩
 have hpl:=h.lt;have htl:=h.zA;have⟨w1,hw1⟩:=xq (w.alloc (.cells eZ 31));have hb1:=gI hw1;have hz1:w1.heap.size=w.heap.size+1:=by rw[hw1];simp
 have HC:=aF (ih.c pb tb 1 (t::r) us x w1 (h.ext hb1) he hx);have nZ:=aF hw1;have dO:w.alloc (.cells eZ 31)=w1:=hw1.symm;have aI:=aF hb1;clear h he hx hw1 hb1;go_enter Tryz.func226,Tryz.ntmps226;go_wp2_with (first|(go_at_call 245;refine HC.mono ?_;rintro e w2⟨⟨av,rfl,ha,hp⟩,hen⟩;have HA:=aF ha;have HP:=aF hp;have HE:=aF hen;have hk2:=YJ nZ hp.1 (λr e=>by cases e;exact hpl);have jr:=aF hk2;clear ha hp hen hk2)|(refine wpList_store_row rfl 31 (.tmp 2) (.tmp 4) rfl w.heap.size _ rfl rfl 31 _ jr.out aL fV (by obtain⟨a,c,rfl⟩:=HA.slice;simp [Value.oneCell']) ?_))
 refine bodyPost_ret (results_cell_row rfl _ _ w 31 _ (0,0) _ rfl (setRow_heap _ _ _ _ _ _ jr.out) Tryz.underlying31 rfl aL) rfl ?_;exact⟨CL (HP.pre aI) jr (by rw[<-hz1];exact HA.out) htl hpl,HE⟩
end
end Go.Proofs.YtjgbkdbkachciaaGreatDoor
