import Derived.Test.YtngglbakkedaiaaGreatDoorYA
set_option linter.all false
namespace Go.Proofs.YtngglbakkedaiaaGreatDoor
open Go.RowKit Go.Shelf
attribute [local go_sem] Oper.semAt_some
def ShortSD:Nat→LS→Prop
 |0,_=>True
 |d+1,s=>s.name.length≤1000000∧(∀x∈s.args,ShortE x)∧(∀x∈s.thn,ShortSD d x)∧∀x∈s.els,ShortSD d x
def ShortS (s:LS):Prop:=∀d,ShortSD d s
theorem ShortS.name {s:LS} (h:ShortS s):s.name.length≤1000000:=(h 1).1
theorem ShortS.args {s:LS} (h:ShortS s):∀x∈s.args,ShortE x:=(h 1).2.1
theorem ShortS.thn {s:LS} (h:ShortS s):∀x∈s.thn,ShortS x:=fun x hx d=>(h (d+1)).2.2.1 x hx
theorem ShortS.els {s:LS} (h:ShortS s):∀x∈s.els,ShortS x:=fun x hx d=>(h (d+1)).2.2.2 x hx
def fineB (k:Int) (nm:Str) (nb:Bool) (an tn en:Nat) (k5:Bool):Bool:=
 if k=1∨k=2 then nb&&decide (tn=0)&&decide (en=0)else if k=3 then decide (nm= [])else if k=4 then decide (nm= [])&&decide (en=0)
 else if k=10 then decide (nm= [])&&(decide (tn=0)&&decide (en=0))&&decide (an=1)&&k5 else if 5≤k∧k≤9 then decide (nm= [])&&(decide (tn=0)&&decide (en=0))else false
def manyN (k:Int):Nat:=if k=2 then 2 else if k=5∨k=6 then 0 else 1
theorem ownS_iff (s:LS) (ha:Asc s.name):ownS s↔(∀x∈s.args,okE 40 x)∧fineB s.kind s.name (isName s.name) s.args.length s.thn.length s.els.length (s.args.all fun a=>decide (a.kind=5))=true∧s.args.length=manyN s.kind:=by
 obtain⟨k,n,a,t,e⟩:=s;simp only[LS.name]at ha;simp only[ownS,fineB,manyN,LS.kind,LS.name,LS.args,LS.thn,LS.els];have t0:t.length=0↔t= []:=List.length_eq_zero_iff;have e0:e.length=0↔e= []:=List.length_eq_zero_iff;rcases(by omega:k=1∨k=2∨k=3∨k=4∨k=5∨k=6∨k=7∨k=8∨k=9∨k=10∨(k<1∨10<k))with rfl|rfl|rfl|rfl|rfl|rfl|rfl|rfl|rfl|rfl|hk
 case inr.inr.inr.inr.inr.inr.inr.inr.inr.inr=>
  have h1: ¬(k=1∨k=2):=om0;have h2: ¬k=3:=om0;have h3: ¬k=4:=om0;have h4: ¬k=10:=om0;have h5: ¬(5≤k∧k≤9):=om0;simp only[h1,h2,h3,h4,h5,if_false];constructor
  ·rintro⟨⟨h, -⟩, -⟩;omega
  ·rintro⟨-,h, -⟩;cases h
 all_goals
  simp [formL,t0,e0,ha]
  try grind
def Sts96 (d:Nat):Prop:=∀(l:List LS) (v:Value) (w:World) (B:Nat→Prop),(∀x∈l,AscS x)→(∀x∈l,ShortS x)→RSlB B 5 (RS d B) w v l→CR 41 #[v] w (.bool (bP (∀x∈l,wellS x)))
abbrev sZ5:Array Value:= #[.int .i64 0, .string ⟨#[]⟩, .slice none 0 0, .slice none 0 0, .slice none 0 0]
set_option maxRecDepth 100000 in
set_option maxHeartbeats 64000000 in
theorem stmts96_step (d:Nat) (ih:∀j,d=j+1→Sts96 j):Sts96 d:=by
 intro l v w B ha hs hx;have⟨Q,hQ⟩:=xq (bP (∀x∈l,wellS x));rw[←hQ];have HQ:=hqz9 hQ;obtain⟨aa,ac,rfl,hlen, -⟩:=id hx;have⟨N,hN⟩:=xq l.length;have hNb:N≤1000000000:=om0;rw[←hN];have HX:=hqz9 hx;have HN:=hqz9 hN;have HI:=hqz9 ih;have HA:=hqz9 ha;have HS:=hqz9 hs;have HBAD:=hqz9 (show∀x∈l,¬wellS x→Q=false from fun x hx h=>by
  rw[HQ.out];exact bP_false fun h'=>h (h' x hx))
 clear hx hQ hN ih ha hs hlen;go_enter Tryz.func41,Tryz.ntmps41;go_wp2;go_loopg [3] N (fun gh i wr=>∃k:Nat,gh+k=N∧i=I k∧Hid (Below w w wr∧∀j,(hj:j<l.length)→j<k→wellS l[j]))
 case atStart=>exact⟨0,om0,rfl,hqz9 ⟨Below.refl _ _,fun j _ h=>absurd h om0⟩⟩
 case round=>
  obtain⟨k,hg,rfl,HH⟩:=hrel;obtain⟨wo,rfl⟩:=xq wr;by_cases hlt:k<N
  case neg=>
   have hltz: ¬(k:Int)<(N:Int):=om0;have hend:Q=true:=by
    rw[HQ.out];exact bP_true fun x hx=>by
     obtain⟨j,hj,rfl⟩:=List.getElem_of_mem hx;exact HH.out.2 j hj (oq0 HN)
   subst hend;go_wp2;go_ret;exact⟨rfl,HH.out.1⟩
  have hltz:(k:Int)<(N:Int):=om0;have hlt':k<l.length:=by rw[←HN.out];exact hlt
  obtain⟨b,o,C,rfl,_,hC,hrx⟩:=(show RSlB B 5 (RS d B) wo (.slice aa l.length ac) l from HX.below HH.out.1 (fun C x h=>RS.below HH.out.1 h)).at hlt';have e0:=hC 0 om0;have e1:=hC 1 om0;have e2:=hC 2 om0;have e3:=hC 3 om0;have e4:=hC 4 om0;simp only[Nat.add_zero]at e0;have⟨x,hxk⟩:=xq (l[k]);have hmem:x∈l:=by rw[hxk];exact List.getElem_mem hlt'
  rw[←hxk]at hrx;obtain⟨j,rfl⟩:∃j,d=j+1:=by
   cases d with
   |zero=>exact hrx.elim
   |succ j=>exact⟨j,rfl⟩
  obtain⟨h0,h1,hax,htx,hex⟩:=hrx;have ih:=HI j rfl;obtain⟨xa,xc,hav⟩:=hax.slice;obtain⟨ta,tc,htv, -⟩:=id htx;obtain⟨ea,ec,hev, -⟩:=id hex;have⟨an,han⟩:=xq x.args.length;rw[show(LE.mk 0 0 0 [] x.args).args.length=an from han.symm]at hav;have⟨tn,htn⟩:=xq x.thn.length;have⟨en,hen⟩:=xq x.els.length;rw[←htn]at htv;rw[←hen]at hev;have⟨sn,hsn⟩:=xq x.name;have⟨sk,hsk⟩:=xq x.kind;have⟨nb,hnb⟩:=xq (isName x.name);have⟨k5,hk5⟩:=xq (x.args.all (fun a=>decide (a.kind=5)));have⟨bt,hbt⟩:=xq (bP (∀y∈x.thn,wellS y));have⟨be,hbe⟩:=xq (bP (∀y∈x.els,wellS y));rw[h0,←hsk]at e0;rw[h1,←hsn]at e1;rw[hav]at e2 hax;rw[htv]at e3 htx;rw[hev]at e4 hex;have hwell:wellS x↔((∀y∈x.args,okE 40 y)∧fineB sk sn nb an tn en k5=true∧an=manyN sk)∧bt=true∧be=true:=by
   rw[wellS_iff,ownS_iff x (HA.out x hmem).name,hbt,hbe,bP_iff,bP_iff,han,htn,hen,hsn,hsk,hnb,hk5]
  have hct:=fun W (hh:RSlB B 5 (RS j B) W (.slice ta tn tc) x.thn)=>ih x.thn _ W B (HA x hmem).thn (HS x hmem).thn hh
  have hce:=fun W (hh:RSlB B 5 (RS j B) W (.slice ea en ec) x.els)=>ih x.els _ W B (HA x hmem).els (HS x hmem).els hh
  rw[←hbt]at hct;rw[←hbe]at hce;have hnm:=fun W=>name93_any x.name (HA x hmem).name (HS x hmem).name W;rw[←hnb,←hsn]at hnm;have hg5:an=1→∃(g o:Nat) (q:Int),xa=some ⟨g,o,none⟩∧g<wo.heap.size∧wo.cell? (g,o)=some (I q)∧k5=decide (q=5):=fun h1=>by
   obtain⟨a,hsa⟩:∃a,x.args= [a]:=List.length_eq_one_iff.1 om0;obtain⟨d',a',c',hv, -,hor⟩:=hax;obtain⟨rfl, -,rfl⟩:xa=a'∧an=(LE.mk 0 0 0 [] x.args).args.length∧xc=c':=by simpa using hv
   rcases hor with hor|⟨g,o,rfl, -,hel⟩
   ·rw[show(LE.mk 0 0 0 [] x.args).args= [a]from hsa]at hor;cases hor
   ·obtain⟨C,hC,hR⟩:=hel 0 a (by rw[show(LE.mk 0 0 0 [] x.args).args= [a]from hsa];rfl);obtain⟨hev, -⟩:=hR.ev;have h0:=hC 0 dc0;rw[Nat.zero_mul,Nat.add_zero]at h0;have hev:Value.agg #[C 0,C 1,C 2,C 3,C 4]=Value.agg #[I a.kind,I a.op,I a.n,S a.name,C 4]:=hev;have h5:C 0=I a.kind∧C 1=I a.op∧C 2=I a.n∧C 3=S a.name:=by simpa using Value.agg.inj hev
    rw[h5.1]at h0;refine⟨g,o,a.kind,rfl, ?_,h0,by rw[hk5,hsa];simp⟩;rcases Nat.lt_or_ge g wo with h|h
    ·exact h
    ·simp [World.cell?,Array.getElem?_eq_none h]at h0
  have hanb:an≤1000000000:=by
   obtain⟨_,_,_,_,h, -⟩:=id hax;rw[han];exact h
  have htnb:tn≤1000000000:=by
   obtain⟨_,_,_,h, -⟩:=id htx;omega
  have henb:en≤1000000000:=by
   obtain⟨_,_,_,h, -⟩:=id hex;omega
  have HW:=hqz9 hwell;have HCT:=hqz9 hct;have HCE:=hqz9 hce;have HNM:=hqz9 hnm;have HG5:=hqz9 hg5;have HAX:=hqz9 hax;have HTX:=hqz9 htx;have HEX:=hqz9 hex;have HMEM:=hqz9 hmem;have HXK:=hqz9 hxk;have HAN:=hqz9 han;clear hC h0 h1 hax htx hex ih hav htv hev han htn hen hsn hsk hnb hk5 hbt hbe hwell hct hce hnm hg5 hxk hmem;go_upto_region 5 with(refine sr 55 (.tmp 4) (.tmp 22) wo sZ5 hn0 ?_;rw[World.setRow_alloc_new])
  have⟨w1,hw1⟩:=xq (wo.alloc (.cells #[I sk,S sn, .slice xa an xc, .slice ta tn tc, .slice ea en ec] 55));have HB1:=hqz9 (aB0 hw1);have HR1:=hqz9 (aN0 hw1);rw[←hw1];have⟨rb,hrb⟩:=xq wo.heap.size;have HRB:=hqz9 hrb;rw[←hrb]at HR1⊢;clear hw1 e0 e1 e2 e3 e4 hrb;go_upto_region 6 with(fail)
  go_loopg [5] an (fun gh i wr=>∃q:Nat,gh+q=an∧i=I q∧Hid (Below w1 w1 wr∧∀j,(hj:j<x.args.length)→j<q→okE 40 x.args[j]))
  case atStart=>exact⟨0,om0,rfl,hqz9 ⟨Below.refl _ _,fun j _ h=>absurd h om0⟩⟩
  case round=>
   obtain⟨q,hgq,rfl,HJ⟩:=hrel;obtain⟨wp,rfl⟩:=xq wr;have hrr:=HR1.ext HJ.out.1;have b2:=hrr.k2;have HBP:=hqz9 (HB1.out.trans (HJ.out.1.mono HB1.size));clear hrr;by_cases hlq:q<an
   case pos=>
    have hlqz:(q:Int)<(an:Int):=om0;have hlq':q<x.args.length:=by rw[←HAN.out];exact hlq
    obtain⟨dx,hdx⟩:=HAX.grown (bg0 HBP) nx0;obtain⟨gb,go,D,rfl,_,hD,hrd⟩:=(show RSlB B 5 (RE dx B) wp (.slice xa (LE.mk 0 0 0 [] x.args).args.length xc) x.args by rw[show(LE.mk 0 0 0 [] x.args).args.length=an from HAN.out.symm];exact hdx).at hlq';have e0:=hD 0 om0;have e1:=hD 1 om0;have e2:=hD 2 om0;have e3:=hD 3 om0;have e4:=hD 4 om0;simp only[Nat.add_zero]at e0;obtain⟨hevd,hexd⟩:=hrd.ev;have⟨y,hyk⟩:=xq (x.args[q]);have hymem:y∈x.args:=by rw[hyk];exact List.getElem_mem hlq'
    rw[←hyk]at hevd hexd;have hce:=rightExpr39_any y ((HA x HMEM).args y hymem) ((HS x HMEM).args y hymem) (D 4) wp B hexd;rw[←hevd]at hce;have⟨qb,hqb⟩:=xq (bP (okE 40 y));rw[←hqb]at hce;have HCX:=hqz9 hce;have HYK:=hqz9 hyk;have HQB:=hqz9 hqb;have HYM:=hqz9 hymem;clear hdx hD hrd hevd hexd hyk hymem hce hqb;cases qb
    ·obtain rfl:Q=false:=HBAD x HMEM fun hw=>by
      have h40:=(HW.1 hw).1.1 y HYM;have:=HQB.out;rw[bP_true h40]at this;cases this
     go_wp2_with (go_at_call 66;refine mh0 HCX fun w2 HB2=> ?_)
     go_ret;exact⟨rfl,HH.out.1.trans ((HBP.out.trans (HB2.mono HBP.size)).mono HH.out.1.size)⟩
    ·go_wp2_with (go_at_call 66;refine mh0 HCX fun w2 HB2=> ?_)
     go_roundg (an - (q+1))
     case measure=>omega
     case rel=>exact⟨q+1,om0,by go_num,hqz9 ⟨HJ.out.1.trans (HB2.mono HJ.out.1.size),fun j hj hjk=>by
      by_cases e:j=q
      ·subst e;rw[←HYK.out];exact bP_iff.1 HQB.out.symm
      ·exact HJ.out.2 j hj om0⟩⟩
   have hlqz: ¬(q:Int)<(an:Int):=om0;have HALL:=hqz9 (show∀y∈x.args,okE 40 y from fun y hy=>by
    obtain⟨j,hj,rfl⟩:=List.getElem_of_mem hy;exact HJ.out.2 j hj (oq0 HAN))
   have hrr:=HR1.ext HJ.out.1;clear b2;have b0:=hrr.k0;have b1:=hrr.k1;have b2:=hrr.k2;have b3:=hrr.k3;have b4:=hrr.k4;have HRP:=hqz9 hrr;clear hrr;have HTP:Hid (RSlB B 5 (RS j B) wp (.slice ta tn tc) x.thn):=HTX.below HBP (fun C x h=>RS.below HBP h);have HEP:=hqz9 (show RSlB B 5 (RS j B) wp (.slice ea en ec) x.els from HEX.below HBP (fun C x h=>RS.below HBP h));go_upto_region 12 with(go_at_call 41;refine mh0 (HCT _ HTP) fun w2 HB2=> ?_;have hrr:=HRP.ext HB2;clear b0 b1 b2 b3 b4;have b0:=hrr.k0;have b1:=hrr.k1;have b2:=hrr.k2;have b3:=hrr.k3;have b4:=hrr.k4;clear hrr)
   go_upto_region 13 with(go_at_call 41;refine mh0 (HCE _ (HEP.below HB2 (fun C x h=>RS.below HB2 h))) fun w3 hb3=> ?_;have HB3:=bt0 HB2 hb3;have hrr:=HRP.ext HB3;clear b0 b1 b2 b3 b4;have b0:=hrr.k0;have b1:=hrr.k1;have b2:=hrr.k2;have b3:=hrr.k3;have b4:=hrr.k4;have HR3:=hqz9 hrr;clear hrr)
   have HBW:=hqz9 (HH.out.1.trans ((HBP.out.trans (HB3.mono HBP.size)).mono HH.out.1.size));have HBO:=bt0 HBP HB3;clear HI HA HS HX HCT HCE HAX HTX HEX HTP HEP HB1 HR1 HRP HB2;cases bt
   case false=>
    obtain rfl:Q=false:=HBAD x HMEM fun hw=>by have:=(HW.1 hw).2.1;cases this
    go_wp2;go_ret;exact⟨rfl,HBW⟩
   cases be
   case false=>
    obtain rfl:Q=false:=HBAD x HMEM fun hw=>by have:=(HW.1 hw).2.2;cases this
    go_wp2;go_ret;exact⟨rfl,HBW⟩
   have HFIN:=hqz9 (show fineB sk sn nb an tn en k5=true→an=manyN sk→wellS x from fun h1 h2=>HW.2 ⟨⟨HALL,h1,h2⟩,rfl,rfl⟩);have HNOT:=hqz9 (show¬(fineB sk sn nb an tn en k5=true∧an=manyN sk)→Q=false from fun h=>HBAD.out x HMEM fun hw=>h (HW.1 hw).1.2);have HREL:=hqz9 (show wellS x→∀j,(hj:j<l.length)→j<k+1→wellS l[j]from fun h j hj hjk=>by
    by_cases e:j=k
    ·subst e;rw[←HXK.out];exact h
    ·exact HH.out.2 j hj om0)
   clear HW HBAD HALL HJ HQ;go_upto_region 17 with(go_at_call 38;refine(HNM _).mono ?_;rintro e' w4⟨rfl,rfl⟩)
   rcases(by omega:sk=1∨sk=2∨sk=3∨sk=4∨sk=5∨sk=6∨sk=7∨sk=8∨sk=9∨sk=10∨(sk<1∨10<sk))with rfl|rfl|rfl|rfl|rfl|rfl|rfl|rfl|rfl|rfl|hk
   ·
    as_aux_lemma=>
    cases nb
    case false=>
     by_cases ht:tn=0
     case neg=>
      have htb:((tn:Int)==0)=false:=bo0;obtain rfl:Q=false:=HNOT (fun h=>by
       have:=h.1;simp [fineB]at this)
      go_wp2;go_ret;exact⟨rfl,HBW⟩
     subst ht;by_cases he:en=0
     case neg=>
      have heb:((en:Int)==0)=false:=bo0;obtain rfl:Q=false:=HNOT (fun h=>by
       have:=h.1;simp [fineB]at this)
      go_wp2;go_ret;exact⟨rfl,HBW⟩
     subst he;obtain rfl:Q=false:=HNOT (fun h=>by
      have:=h.1;simp [fineB]at this)
     go_wp2;go_ret;exact⟨rfl,HBW⟩
    by_cases ht:tn=0
    case neg=>
     have htb:((tn:Int)==0)=false:=bo0;obtain rfl:Q=false:=HNOT (fun h=>by
      have:=h.1;simp [fineB,ht]at this)
     go_wp2;go_ret;exact⟨rfl,HBW⟩
    subst ht;by_cases he:en=0
    case neg=>
     have heb:((en:Int)==0)=false:=bo0;obtain rfl:Q=false:=HNOT (fun h=>by
      have:=h.1;simp [fineB,he]at this)
     go_wp2;go_ret;exact⟨rfl,HBW⟩
    subst he;by_cases hm:an=1
    case neg=>
     have hmb:((an:Int)==1)=false:=bo0;have hmc:((an:Int) !=1)=true:=by rw[bne,hmb];rfl
     obtain rfl:Q=false:=HNOT (fun h=>by
      have:=h.2;simp [manyN]at this;omega)
     clear hm;go_wp2;go_ret;exact⟨rfl,HBW⟩
    subst hm;have HWL:=hqz9 (HFIN (by simp [fineB]) (by simp [manyN]));go_wp2;go_roundg (N - (k+1))
    case measure=>omega
    case rel=>exact⟨k+1,om0,by go_num,hqz9 ⟨HBW,HREL HWL⟩⟩
   ·
    as_aux_lemma=>
    cases nb
    case false=>
     by_cases ht:tn=0
     case neg=>
      have htb:((tn:Int)==0)=false:=bo0;obtain rfl:Q=false:=HNOT (fun h=>by
       have:=h.1;simp [fineB]at this)
      go_wp2;go_ret;exact⟨rfl,HBW⟩
     subst ht;by_cases he:en=0
     case neg=>
      have heb:((en:Int)==0)=false:=bo0;obtain rfl:Q=false:=HNOT (fun h=>by
       have:=h.1;simp [fineB]at this)
      go_wp2;go_ret;exact⟨rfl,HBW⟩
     subst he;obtain rfl:Q=false:=HNOT (fun h=>by
      have:=h.1;simp [fineB]at this)
     go_wp2;go_ret;exact⟨rfl,HBW⟩
    by_cases ht:tn=0
    case neg=>
     have htb:((tn:Int)==0)=false:=bo0;obtain rfl:Q=false:=HNOT (fun h=>by
      have:=h.1;simp [fineB,ht]at this)
     go_wp2;go_ret;exact⟨rfl,HBW⟩
    subst ht;by_cases he:en=0
    case neg=>
     have heb:((en:Int)==0)=false:=bo0;obtain rfl:Q=false:=HNOT (fun h=>by
      have:=h.1;simp [fineB,he]at this)
     go_wp2;go_ret;exact⟨rfl,HBW⟩
    subst he;by_cases hm:an=2
    case neg=>
     have hmb:((an:Int)==2)=false:=bo0;have hmc:((an:Int) !=2)=true:=by rw[bne,hmb];rfl
     obtain rfl:Q=false:=HNOT (fun h=>by
      have:=h.2;simp [manyN]at this;omega)
     clear hm;go_wp2;go_ret;exact⟨rfl,HBW⟩
    subst hm;have HWL:=hqz9 (HFIN (by simp [fineB]) (by simp [manyN]));go_wp2;go_roundg (N - (k+1))
    case measure=>omega
    case rel=>exact⟨k+1,om0,by go_num,hqz9 ⟨HBW,HREL HWL⟩⟩
   ·
    as_aux_lemma=>
    by_cases ht:tn=0
    case neg=>
     have htb:((tn:Int)==0)=false:=bo0;by_cases hs:sn= []
     case neg=>
      have hsb:(sn== [])=false:=bn0 hs;obtain rfl:Q=false:=HNOT (fun h=>by
       have:=h.1;simp [fineB,hs]at this)
      go_wp2;go_ret;exact⟨rfl,HBW⟩
     subst hs;by_cases hm:an=1
     case neg=>
      have hmb:((an:Int)==1)=false:=bo0;have hmc:((an:Int) !=1)=true:=by rw[bne,hmb];rfl
      obtain rfl:Q=false:=HNOT (fun h=>by
       have:=h.2;simp [manyN]at this;omega)
      clear hm;go_wp2;go_ret;exact⟨rfl,HBW⟩
     subst hm;have HWL:=hqz9 (HFIN (by simp [fineB]) (by simp [manyN]));go_wp2;go_roundg (N - (k+1))
     case measure=>omega
     case rel=>exact⟨k+1,om0,by go_num,hqz9 ⟨HBW,HREL HWL⟩⟩
    subst ht;by_cases he:en=0
    case neg=>
     have heb:((en:Int)==0)=false:=bo0;by_cases hs:sn= []
     case neg=>
      have hsb:(sn== [])=false:=bn0 hs;obtain rfl:Q=false:=HNOT (fun h=>by
       have:=h.1;simp [fineB,hs]at this)
      go_wp2;go_ret;exact⟨rfl,HBW⟩
     subst hs;by_cases hm:an=1
     case neg=>
      have hmb:((an:Int)==1)=false:=bo0;have hmc:((an:Int) !=1)=true:=by rw[bne,hmb];rfl
      obtain rfl:Q=false:=HNOT (fun h=>by
       have:=h.2;simp [manyN]at this;omega)
      clear hm;go_wp2;go_ret;exact⟨rfl,HBW⟩
     subst hm;have HWL:=hqz9 (HFIN (by simp [fineB]) (by simp [manyN]));go_wp2;go_roundg (N - (k+1))
     case measure=>omega
     case rel=>exact⟨k+1,om0,by go_num,hqz9 ⟨HBW,HREL HWL⟩⟩
    subst he;by_cases hs:sn= []
    case neg=>
     have hsb:(sn== [])=false:=bn0 hs;obtain rfl:Q=false:=HNOT (fun h=>by
      have:=h.1;simp [fineB,hs]at this)
     go_wp2;go_ret;exact⟨rfl,HBW⟩
    subst hs;by_cases hm:an=1
    case neg=>
     have hmb:((an:Int)==1)=false:=bo0;have hmc:((an:Int) !=1)=true:=by rw[bne,hmb];rfl
     obtain rfl:Q=false:=HNOT (fun h=>by
      have:=h.2;simp [manyN]at this;omega)
     clear hm;go_wp2;go_ret;exact⟨rfl,HBW⟩
    subst hm;have HWL:=hqz9 (HFIN (by simp [fineB]) (by simp [manyN]));go_wp2;go_roundg (N - (k+1))
    case measure=>omega
    case rel=>exact⟨k+1,om0,by go_num,hqz9 ⟨HBW,HREL HWL⟩⟩
   ·
    as_aux_lemma=>
    by_cases ht:tn=0
    case neg=>
     have htb:((tn:Int)==0)=false:=bo0;by_cases he:en=0
     case neg=>
      have heb:((en:Int)==0)=false:=bo0;by_cases hs:sn= []
      case neg=>
       have hsb:(sn== [])=false:=bn0 hs;obtain rfl:Q=false:=HNOT (fun h=>by
        have:=h.1;simp [fineB,hs]at this)
       go_wp2;go_ret;exact⟨rfl,HBW⟩
      subst hs;obtain rfl:Q=false:=HNOT (fun h=>by
       have:=h.1;simp [fineB,he]at this)
      go_wp2;go_ret;exact⟨rfl,HBW⟩
     subst he;by_cases hs:sn= []
     case neg=>
      have hsb:(sn== [])=false:=bn0 hs;obtain rfl:Q=false:=HNOT (fun h=>by
       have:=h.1;simp [fineB,hs]at this)
      go_wp2;go_ret;exact⟨rfl,HBW⟩
     subst hs;by_cases hm:an=1
     case neg=>
      have hmb:((an:Int)==1)=false:=bo0;have hmc:((an:Int) !=1)=true:=by rw[bne,hmb];rfl
      obtain rfl:Q=false:=HNOT (fun h=>by
       have:=h.2;simp [manyN]at this;omega)
      clear hm;go_wp2;go_ret;exact⟨rfl,HBW⟩
     subst hm;have HWL:=hqz9 (HFIN (by simp [fineB]) (by simp [manyN]));go_wp2;go_roundg (N - (k+1))
     case measure=>omega
     case rel=>exact⟨k+1,om0,by go_num,hqz9 ⟨HBW,HREL HWL⟩⟩
    subst ht;by_cases he:en=0
    case neg=>
     have heb:((en:Int)==0)=false:=bo0;by_cases hs:sn= []
     case neg=>
      have hsb:(sn== [])=false:=bn0 hs;obtain rfl:Q=false:=HNOT (fun h=>by
       have:=h.1;simp [fineB,hs]at this)
      go_wp2;go_ret;exact⟨rfl,HBW⟩
     subst hs;obtain rfl:Q=false:=HNOT (fun h=>by
      have:=h.1;simp [fineB,he]at this)
     go_wp2;go_ret;exact⟨rfl,HBW⟩
    subst he;by_cases hs:sn= []
    case neg=>
     have hsb:(sn== [])=false:=bn0 hs;obtain rfl:Q=false:=HNOT (fun h=>by
      have:=h.1;simp [fineB,hs]at this)
     go_wp2;go_ret;exact⟨rfl,HBW⟩
    subst hs;by_cases hm:an=1
    case neg=>
     have hmb:((an:Int)==1)=false:=bo0;have hmc:((an:Int) !=1)=true:=by rw[bne,hmb];rfl
     obtain rfl:Q=false:=HNOT (fun h=>by
      have:=h.2;simp [manyN]at this;omega)
     clear hm;go_wp2;go_ret;exact⟨rfl,HBW⟩
    subst hm;have HWL:=hqz9 (HFIN (by simp [fineB]) (by simp [manyN]));go_wp2;go_roundg (N - (k+1))
    case measure=>omega
    case rel=>exact⟨k+1,om0,by go_num,hqz9 ⟨HBW,HREL HWL⟩⟩
   ·
    as_aux_lemma=>
    by_cases ht:tn=0
    case neg=>
     have htb:((tn:Int)==0)=false:=bo0;by_cases hs:sn= []
     case neg=>
      have hsb:(sn== [])=false:=bn0 hs;obtain rfl:Q=false:=HNOT (fun h=>by
       have:=h.1;simp [fineB,hs]at this)
      go_wp2;go_ret;exact⟨rfl,HBW⟩
     subst hs;obtain rfl:Q=false:=HNOT (fun h=>by
      have:=h.1;simp [fineB,ht]at this)
     go_wp2;go_ret;exact⟨rfl,HBW⟩
    subst ht;by_cases he:en=0
    case neg=>
     have heb:((en:Int)==0)=false:=bo0;by_cases hs:sn= []
     case neg=>
      have hsb:(sn== [])=false:=bn0 hs;obtain rfl:Q=false:=HNOT (fun h=>by
       have:=h.1;simp [fineB,hs]at this)
      go_wp2;go_ret;exact⟨rfl,HBW⟩
     subst hs;obtain rfl:Q=false:=HNOT (fun h=>by
      have:=h.1;simp [fineB,he]at this)
     go_wp2;go_ret;exact⟨rfl,HBW⟩
    subst he;by_cases hs:sn= []
    case neg=>
     have hsb:(sn== [])=false:=bn0 hs;obtain rfl:Q=false:=HNOT (fun h=>by
      have:=h.1;simp [fineB,hs]at this)
     go_wp2;go_ret;exact⟨rfl,HBW⟩
    subst hs;by_cases hm:an=0
    case neg=>
     have hmb:((an:Int)==0)=false:=bo0;have hmc:((an:Int) !=0)=true:=by rw[bne,hmb];rfl
     obtain rfl:Q=false:=HNOT (fun h=>by
      have:=h.2;simp [manyN]at this;omega)
     clear hm;go_wp2;go_ret;exact⟨rfl,HBW⟩
    subst hm;have HWL:=hqz9 (HFIN (by simp [fineB]) (by simp [manyN]));go_wp2;go_roundg (N - (k+1))
    case measure=>omega
    case rel=>exact⟨k+1,om0,by go_num,hqz9 ⟨HBW,HREL HWL⟩⟩
   ·
    as_aux_lemma=>
    by_cases ht:tn=0
    case neg=>
     have htb:((tn:Int)==0)=false:=bo0;by_cases hs:sn= []
     case neg=>
      have hsb:(sn== [])=false:=bn0 hs;obtain rfl:Q=false:=HNOT (fun h=>by
       have:=h.1;simp [fineB,hs]at this)
      go_wp2;go_ret;exact⟨rfl,HBW⟩
     subst hs;obtain rfl:Q=false:=HNOT (fun h=>by
      have:=h.1;simp [fineB,ht]at this)
     go_wp2;go_ret;exact⟨rfl,HBW⟩
    subst ht;by_cases he:en=0
    case neg=>
     have heb:((en:Int)==0)=false:=bo0;by_cases hs:sn= []
     case neg=>
      have hsb:(sn== [])=false:=bn0 hs;obtain rfl:Q=false:=HNOT (fun h=>by
       have:=h.1;simp [fineB,hs]at this)
      go_wp2;go_ret;exact⟨rfl,HBW⟩
     subst hs;obtain rfl:Q=false:=HNOT (fun h=>by
      have:=h.1;simp [fineB,he]at this)
     go_wp2;go_ret;exact⟨rfl,HBW⟩
    subst he;by_cases hs:sn= []
    case neg=>
     have hsb:(sn== [])=false:=bn0 hs;obtain rfl:Q=false:=HNOT (fun h=>by
      have:=h.1;simp [fineB,hs]at this)
     go_wp2;go_ret;exact⟨rfl,HBW⟩
    subst hs;by_cases hm:an=0
    case neg=>
     have hmb:((an:Int)==0)=false:=bo0;have hmc:((an:Int) !=0)=true:=by rw[bne,hmb];rfl
     obtain rfl:Q=false:=HNOT (fun h=>by
      have:=h.2;simp [manyN]at this;omega)
     clear hm;go_wp2;go_ret;exact⟨rfl,HBW⟩
    subst hm;have HWL:=hqz9 (HFIN (by simp [fineB]) (by simp [manyN]));go_wp2;go_roundg (N - (k+1))
    case measure=>omega
    case rel=>exact⟨k+1,om0,by go_num,hqz9 ⟨HBW,HREL HWL⟩⟩
   ·
    as_aux_lemma=>
    by_cases ht:tn=0
    case neg=>
     have htb:((tn:Int)==0)=false:=bo0;by_cases hs:sn= []
     case neg=>
      have hsb:(sn== [])=false:=bn0 hs;obtain rfl:Q=false:=HNOT (fun h=>by
       have:=h.1;simp [fineB,hs]at this)
      go_wp2;go_ret;exact⟨rfl,HBW⟩
     subst hs;obtain rfl:Q=false:=HNOT (fun h=>by
      have:=h.1;simp [fineB,ht]at this)
     go_wp2;go_ret;exact⟨rfl,HBW⟩
    subst ht;by_cases he:en=0
    case neg=>
     have heb:((en:Int)==0)=false:=bo0;by_cases hs:sn= []
     case neg=>
      have hsb:(sn== [])=false:=bn0 hs;obtain rfl:Q=false:=HNOT (fun h=>by
       have:=h.1;simp [fineB,hs]at this)
      go_wp2;go_ret;exact⟨rfl,HBW⟩
     subst hs;obtain rfl:Q=false:=HNOT (fun h=>by
      have:=h.1;simp [fineB,he]at this)
     go_wp2;go_ret;exact⟨rfl,HBW⟩
    subst he;by_cases hs:sn= []
    case neg=>
     have hsb:(sn== [])=false:=bn0 hs;obtain rfl:Q=false:=HNOT (fun h=>by
      have:=h.1;simp [fineB,hs]at this)
     go_wp2;go_ret;exact⟨rfl,HBW⟩
    subst hs;by_cases hm:an=1
    case neg=>
     have hmb:((an:Int)==1)=false:=bo0;have hmc:((an:Int) !=1)=true:=by rw[bne,hmb];rfl
     obtain rfl:Q=false:=HNOT (fun h=>by
      have:=h.2;simp [manyN]at this;omega)
     clear hm;go_wp2;go_ret;exact⟨rfl,HBW⟩
    subst hm;have HWL:=hqz9 (HFIN (by simp [fineB]) (by simp [manyN]));go_wp2;go_roundg (N - (k+1))
    case measure=>omega
    case rel=>exact⟨k+1,om0,by go_num,hqz9 ⟨HBW,HREL HWL⟩⟩
   ·
    as_aux_lemma=>
    by_cases ht:tn=0
    case neg=>
     have htb:((tn:Int)==0)=false:=bo0;by_cases hs:sn= []
     case neg=>
      have hsb:(sn== [])=false:=bn0 hs;obtain rfl:Q=false:=HNOT (fun h=>by
       have:=h.1;simp [fineB,hs]at this)
      go_wp2;go_ret;exact⟨rfl,HBW⟩
     subst hs;obtain rfl:Q=false:=HNOT (fun h=>by
      have:=h.1;simp [fineB,ht]at this)
     go_wp2;go_ret;exact⟨rfl,HBW⟩
    subst ht;by_cases he:en=0
    case neg=>
     have heb:((en:Int)==0)=false:=bo0;by_cases hs:sn= []
     case neg=>
      have hsb:(sn== [])=false:=bn0 hs;obtain rfl:Q=false:=HNOT (fun h=>by
       have:=h.1;simp [fineB,hs]at this)
      go_wp2;go_ret;exact⟨rfl,HBW⟩
     subst hs;obtain rfl:Q=false:=HNOT (fun h=>by
      have:=h.1;simp [fineB,he]at this)
     go_wp2;go_ret;exact⟨rfl,HBW⟩
    subst he;by_cases hs:sn= []
    case neg=>
     have hsb:(sn== [])=false:=bn0 hs;obtain rfl:Q=false:=HNOT (fun h=>by
      have:=h.1;simp [fineB,hs]at this)
     go_wp2;go_ret;exact⟨rfl,HBW⟩
    subst hs;by_cases hm:an=1
    case neg=>
     have hmb:((an:Int)==1)=false:=bo0;have hmc:((an:Int) !=1)=true:=by rw[bne,hmb];rfl
     obtain rfl:Q=false:=HNOT (fun h=>by
      have:=h.2;simp [manyN]at this;omega)
     clear hm;go_wp2;go_ret;exact⟨rfl,HBW⟩
    subst hm;have HWL:=hqz9 (HFIN (by simp [fineB]) (by simp [manyN]));go_wp2;go_roundg (N - (k+1))
    case measure=>omega
    case rel=>exact⟨k+1,om0,by go_num,hqz9 ⟨HBW,HREL HWL⟩⟩
   ·
    as_aux_lemma=>
    by_cases ht:tn=0
    case neg=>
     have htb:((tn:Int)==0)=false:=bo0;by_cases hs:sn= []
     case neg=>
      have hsb:(sn== [])=false:=bn0 hs;obtain rfl:Q=false:=HNOT (fun h=>by
       have:=h.1;simp [fineB,hs]at this)
      go_wp2;go_ret;exact⟨rfl,HBW⟩
     subst hs;obtain rfl:Q=false:=HNOT (fun h=>by
      have:=h.1;simp [fineB,ht]at this)
     go_wp2;go_ret;exact⟨rfl,HBW⟩
    subst ht;by_cases he:en=0
    case neg=>
     have heb:((en:Int)==0)=false:=bo0;by_cases hs:sn= []
     case neg=>
      have hsb:(sn== [])=false:=bn0 hs;obtain rfl:Q=false:=HNOT (fun h=>by
       have:=h.1;simp [fineB,hs]at this)
      go_wp2;go_ret;exact⟨rfl,HBW⟩
     subst hs;obtain rfl:Q=false:=HNOT (fun h=>by
      have:=h.1;simp [fineB,he]at this)
     go_wp2;go_ret;exact⟨rfl,HBW⟩
    subst he;by_cases hs:sn= []
    case neg=>
     have hsb:(sn== [])=false:=bn0 hs;obtain rfl:Q=false:=HNOT (fun h=>by
      have:=h.1;simp [fineB,hs]at this)
     go_wp2;go_ret;exact⟨rfl,HBW⟩
    subst hs;by_cases hm:an=1
    case neg=>
     have hmb:((an:Int)==1)=false:=bo0;have hmc:((an:Int) !=1)=true:=by rw[bne,hmb];rfl
     obtain rfl:Q=false:=HNOT (fun h=>by
      have:=h.2;simp [manyN]at this;omega)
     clear hm;go_wp2;go_ret;exact⟨rfl,HBW⟩
    subst hm;have HWL:=hqz9 (HFIN (by simp [fineB]) (by simp [manyN]));go_wp2;go_roundg (N - (k+1))
    case measure=>omega
    case rel=>exact⟨k+1,om0,by go_num,hqz9 ⟨HBW,HREL HWL⟩⟩
   ·
    as_aux_lemma=>
    by_cases ht:tn=0
    case neg=>
     have htb:((tn:Int)==0)=false:=bo0;by_cases hs:sn= []
     case neg=>
      have hsb:(sn== [])=false:=bn0 hs;obtain rfl:Q=false:=HNOT (fun h=>by
       have:=h.1;simp [fineB,hs]at this)
      go_wp2;go_ret;exact⟨rfl,HBW⟩
     subst hs;obtain rfl:Q=false:=HNOT (fun h=>by
      have:=h.1;simp [fineB,ht]at this)
     go_wp2;go_ret;exact⟨rfl,HBW⟩
    subst ht;by_cases he:en=0
    case neg=>
     have heb:((en:Int)==0)=false:=bo0;by_cases hs:sn= []
     case neg=>
      have hsb:(sn== [])=false:=bn0 hs;obtain rfl:Q=false:=HNOT (fun h=>by
       have:=h.1;simp [fineB,hs]at this)
      go_wp2;go_ret;exact⟨rfl,HBW⟩
     subst hs;obtain rfl:Q=false:=HNOT (fun h=>by
      have:=h.1;simp [fineB,he]at this)
     go_wp2;go_ret;exact⟨rfl,HBW⟩
    subst he;by_cases hs:sn= []
    case neg=>
     have hsb:(sn== [])=false:=bn0 hs;obtain rfl:Q=false:=HNOT (fun h=>by
      have:=h.1;simp [fineB,hs]at this)
     go_wp2;go_ret;exact⟨rfl,HBW⟩
    subst hs;by_cases hm:an=1
    case neg=>
     have hmb:((an:Int)==1)=false:=bo0;obtain rfl:Q=false:=HNOT (fun h=>by
      have:=h.1;simp [fineB,hm]at this)
     go_wp2;go_ret;exact⟨rfl,HBW⟩
    obtain⟨g,go5,q5,rfl,hgl,hg5,hq5⟩:=HG5 hm;subst hm;have hgc:=(show World.cell? _ (g,go5)=some (I q5)from(cell_on (HBO.block g hgl)).trans hg5);clear hg5 hgl;by_cases hq:q5=5
    case neg=>
     have hqb:(q5==5)=false:=bn0 hq;have HK5:=hqz9 (show k5=false by rw[hq5];simp [hq]);clear hq5 hq;obtain rfl:Q=false:=HNOT (fun h=>by
      have:=h.1;simp [fineB,HK5.out]at this)
     go_wp2;go_ret;exact⟨rfl,HBW⟩
    subst hq;have HK5:=hqz9 (show k5=true by rw[hq5];rfl);clear hq5;have HWL:=hqz9 (HFIN (by simp [fineB,HK5.out]) (by simp [manyN]));go_wp2;go_roundg (N - (k+1))
    case measure=>omega
    case rel=>exact⟨k+1,om0,by go_num,hqz9 ⟨HBW,HREL HWL⟩⟩
   ·have kk1:(sk==1)=false:=bo0;have kk2:(sk==2)=false:=bo0;have kk3:(sk==3)=false:=bo0;have kk4:(sk==4)=false:=bo0;have kk5:(sk==5)=false:=bo0;have kk6:(sk==6)=false:=bo0;have kk7:(sk==7)=false:=bo0;have kk8:(sk==8)=false:=bo0;have kk9:(sk==9)=false:=bo0;have kk10:(sk==10)=false:=bo0;have hf:fineB sk sn nb an tn en k5=false:=by
     unfold fineB;rw[if_neg om0,if_neg om0,if_neg om0,if_neg om0,if_neg om0]
    obtain rfl:Q=false:=HNOT (fun h=>by rw[hf]at h;exact absurd h.1 dc0);clear hf hk;by_cases ht:tn=0
    case neg=>
     have htb:((tn:Int)==0)=false:=bo0;go_wp2;go_ret;exact⟨rfl,HBW⟩
    subst ht;by_cases he:en=0
    case neg=>
     have heb:((en:Int)==0)=false:=bo0;go_wp2;go_ret;exact⟨rfl,HBW⟩
    subst he;go_wp2;go_ret;exact⟨rfl,HBW⟩
theorem sts96_any:∀d,Sts96 d
 |0=>stmts96_step 0 nx0
 |d+1=>stmts96_step (d+1) (fun j e=>by
   obtain rfl:j=d:=om0
   exact sts96_any j)
end Go.Proofs.YtngglbakkedaiaaGreatDoor
