import Derived.Test.YtngglbakkedaiaaGreatDoorC3
set_option linter.all false
namespace Go.Proofs.YtngglbakkedaiaaGreatDoor
section
open Go.RowKit Go.Shelf
mutual
def totS:LS→Nat
 |.mk _ _ _ t e=>1+totL t+totL e
def totL:List LS→Nat
 |[]=>0
 |s::l=>totS s+totL l
end
mutual
def depS:LS→Nat
 |.mk _ _ _ t e=>1+max (depL t) (depL e)
def depL:List LS→Nat
 |[]=>0
 |s::l=>max (depS s) (depL l)
end
theorem tot_0 {k:Int} {n:Str} {a:List LE}:totS (.mk k n a [] [])≤600+depS (.mk k n a [] []):=by simp only[totS,totL,depS,depL];omega
theorem tot_t {k:Int} {n:Str} {a:List LE} {x:LS} (h:totS x≤600+depS x):totS (.mk k n a [x] [])≤600+depS (.mk k n a [x] []):=by simp only[totS,totL,depS,depL];omega
theorem tot_e {k:Int} {n:Str} {a:List LE} {x:LS} (h:totS x≤600+depS x):totS (.mk k n a [] [x])≤600+depS (.mk k n a [] [x]):=by simp only[totS,totL,depS,depL];omega
theorem totL_le {b:Nat}:∀(l:List LS),(∀x∈l,totS x≤b)→totL l≤l.length*b
 |[],_=>by simp [totL]
 |s::l,h=>by
  have h1:=h s (List.mem_cons_self ..);have h2:=totL_le l fun x hx=>h x (List.mem_cons_of_mem _ hx)
  rw[totL,List.length_cons,Nat.add_mul]
  omega
end
section
open Go.RowKit Go.Shelf
attribute [local go_sem] Oper.semAt_some
def ShortD:Nat→LE→Prop
 |0,_=>True
 |d+1,e=>e.name.length≤1000000∧∀x∈e.args,ShortD d x
def ShortE (e:LE):Prop:=∀d,ShortD d e
theorem ShortE.name {e:LE} (h:ShortE e):e.name.length≤1000000:=(h 1).1
theorem ShortE.args {e:LE} (h:ShortE e):∀x∈e.args,ShortE x:=fun x hx d=>(h (d+1)).2 x hx
def rightK (ek eo en:Int) (nm:Str) (al:Nat) (nb:Bool):Bool:=
 if ek=1 then bareB eo en nm al false true false 0&&decide (0≤en)else
 if ek=2 then bareB eo en nm al false false true 0&&nb else
 if ek=3 then bareB eo en nm al true false false 1&&(decide (17≤eo)&&decide (eo≤19))else
 if ek=4 then bareB eo en nm al true false false 2&&(decide (1≤eo)&&decide (eo≤16))else
 if ek=5 then bareB eo en nm al false false true (al:Int)&&(nb&&decide (al≤6))else
 if ek=6 then bareB eo en nm al false false true 1&&nb else
 if ek=7 then bareB eo en nm al false false false 0&&true else
 false
theorem rightK_iff (e:LE) (ha:Asc e.name):rightK e.kind e.op e.n e.name e.args.length (isName e.name)=true↔onlyE e:=by
 obtain⟨k,op,n,nm,l⟩:=e;simp only[LE.name]at ha;simp only[onlyE,rightK,bareB,LE.kind,LE.op,LE.n,LE.name,LE.args];rcases(by omega:k=1∨k=2∨k=3∨k=4∨k=5∨k=6∨k=7∨(k≠1∧k≠2∧k≠3∧k≠4∧k≠5∧k≠6∧k≠7))with rfl|rfl|rfl|rfl|rfl|rfl|rfl|⟨h1,h2,h3,h4,h5,h6,h7⟩
 all_goals simp_all
 all_goals (first|omega|grind)
def RightOk (d:Nat):Prop:=∀(x:LE) (B:Nat→Prop) (W:World) (C:Nat→Value),AscE x→ShortE x→RE d B W C x→CR 106 #[eV x (C 4)] W (.bool (bP (wellP x)))
set_option maxRecDepth 100000 in
set_option maxHeartbeats 16000000 in
theorem right65_step {d:Nat} (ih:RightOk d) (e:LE) (ha:AscE e) (hsh:ShortE e) (av:Value) (w:World) (B:Nat→Prop) (hx:RSlB B 5 (RE d B) w av e.args):CR 106 #[eV e av] w (.bool (bP (wellP e))):=by
 have⟨Q,hQ⟩:=xq (bP (wellP e));rw[←hQ];have HQ:=hqz9 hQ;obtain⟨aa,ac,rfl,hlen, -⟩:=id hx;have⟨N,hN⟩:=xq e.args.length;have hNb:N≤1000000000:=om0;have⟨ek,hek⟩:=xq e.kind;have⟨eo,heo⟩:=xq e.op;have⟨en,hen⟩:=xq e.n;have⟨nm,hnm⟩:=xq e.name;have⟨nb,hnb⟩:=xq (isName e.name);have hval:eV e (.slice aa e.args.length ac)= .agg #[I ek,I eo,I en,S nm, .slice aa N ac]:=by rw[eV,hek,heo,hen,hnm,hN]
 rw[hval];have hnam:=fun W=>name93_any e.name ha.name hsh.name W;rw[←hnb,←hnm]at hnam;have hfin:(∀x∈e.args,wellP x)→Q=rightK ek eo en nm N nb:=fun h=>by
  rw[HQ.out,Bool.eq_iff_iff,bP_iff,wellP_iff,hek,heo,hen,hnm,hN,hnb,rightK_iff e ha.name];exact⟨fun h=>h.1,fun h'=>⟨h',h⟩⟩
 have HBAD:=hqz9 (show∀x∈e.args,bP (wellP x)=false→Q=false from fun x hx h=>by
  rw[HQ.out];refine bP_false fun hw=> ?_;rw[bP_true (((wellP_iff e).1 hw).2 x hx)]at h;cases h)
 have⟨w0,hw0⟩:=xq (w.alloc (.cells #[I ek,I eo,I en,S nm, .slice aa N ac] 57));have hwe:=hw0.symm;have HB0:=hqz9 (aB0 hw0);have HR0:=hqz9 (aN0 hw0);have HX:=hqz9 hx;have HN:=hqz9 hN;have HI:=hqz9 ih;have HA:=hqz9 ha;have HSH:=hqz9 hsh;have HNAM:=hqz9 hnam;have HFIN:=hqz9 hfin;clear hx hQ hN hek heo hen hnm hnb hval hw0 ih ha hsh hnam hfin hlen;go_enter Tryz.func106,Tryz.ntmps106;go_wp2;clear hwe;go_loopg [3] N (fun gh i wr=>∃k:Nat,gh+k=N∧i=I k∧Hid (Below w0 w0 wr∧∀j,(hj:j<e.args.length)→j<k→wellP e.args[j]))
 case atStart=>exact⟨0,om0,rfl,hqz9 ⟨Below.refl _ _,fun j _ h=>absurd h om0⟩⟩
 case round=>
  obtain⟨k,hg,rfl,HH⟩:=hrel;obtain⟨wo,rfl⟩:=xq wr;have hr1:=HR0.ext HH.out.1;have b4:=hr1.k4;have HBW:=hqz9 (HB0.out.trans (HH.out.1.mono HB0.size));have HR1:=hqz9 hr1;clear hr1;by_cases hlt:k<N
  ·have hltz:(k:Int)<(N:Int):=om0;have hlt':k<e.args.length:=by rw[←HN.out];exact hlt
   obtain⟨b,o,C,rfl,_,hC,hrx⟩:=(show RSlB B 5 (RE d B) wo (.slice aa e.args.length ac) e.args from HX.below HBW (fun C x h=>RE.below HBW h)).at hlt';have e0:=hC 0 om0;have e1:=hC 1 om0;have e2:=hC 2 om0;have e3:=hC 3 om0;have e4:=hC 4 om0;simp only[Nat.add_zero]at e0 e1 e2 e3 e4;obtain⟨hev, -⟩:=hrx.ev;have⟨x,hxk⟩:=xq (e.args[k]);have HMEM:=hqz9 (show x∈e.args by rw[hxk];exact List.getElem_mem hlt');rw[←hxk]at hev hrx;have hc:=HI x B wo C (HA.args x HMEM) (HSH.args x HMEM) hrx;rw[←hev]at hc;have⟨q,hq⟩:=xq (bP (wellP x));rw[←hq]at hc;have HC:=hqz9 hc;have HXK:=hqz9 hxk;have HQQ:=hqz9 hq;clear hC hrx hev hc hxk hq;cases q
   ·obtain rfl:Q=false:=HBAD x HMEM HQQ.out.symm;go_wp2_with (go_at_call 106;refine mh0 HC fun w1 HB1=> ?_)
    go_ret;exact⟨rfl,HBW.out.trans (HB1.mono HBW.size)⟩
   ·go_wp2_with (go_at_call 106;refine mh0 HC fun w1 HB1=> ?_)
    go_roundg (N - (k+1))
    case measure=>omega
    case rel=>exact⟨k+1,om0,by go_num,hqz9 ⟨HH.out.1.trans (HB1.mono HH.out.1.size),fun j hj hjk=>by
     by_cases e:j=k
     ·subst e;rw[←HXK.out];exact bP_iff.1 HQQ.out.symm
     ·exact HH.out.2 j hj om0⟩⟩
  ·have hltz: ¬(k:Int)<(N:Int):=om0;have hfin:=HFIN (fun x hx=>by
    obtain⟨j,hj,rfl⟩:=List.getElem_of_mem hx;exact HH.out.2 j hj (oq0 HN))
   have b0:=HR1.k0;have b1:=HR1.k1;have b2:=HR1.k2;have b3:=HR1.k3;have HF:=hqz9 hfin;have HBR:=hqz9 (fun(o n m:Bool) (k:Int) W=>bare106_any ek eo en nm aa N ac o n m k W);clear hfin HFIN HBAD HI HH;go_upto_region 8 with(go_at_call 38;refine(HNAM _).mono ?_;rintro e' w1⟨rfl,rfl⟩)
   rcases(by omega:ek=1∨ek=2∨ek=3∨ek=4∨ek=5∨ek=6∨ek=7∨(ek≠1∧ek≠2∧ek≠3∧ek≠4∧ek≠5∧ek≠6∧ek≠7))with rfl|rfl|rfl|rfl|rfl|rfl|rfl|⟨h1,h2,h3,h4,h5,h6,h7⟩
   ·have⟨bb,hbb⟩:=xq (bareB eo en nm N false true false 0);have hq:=HF.out;simp only[rightK,←hbb,if_true,Int.reduceEq,if_false]at hq;have HBB:=hqz9 (fun W=>(show Calls Tryz.prog 168 #[.agg #[I 1,I eo,I en,S nm, .slice aa N ac], .bool false, .bool true, .bool false,I 0] W fun e w'=>e= .returned (.bool bb)∧Below W W w' by rw[hbb];exact HBR false true false 0 W));clear hbb;cases bb
    ·obtain rfl:Q=false:=by rw[hq];simp
     clear hq;go_wp2_with (go_at_call 168;refine mh0 (HBB _) fun w2 hb2=> ?_;have HB2:=bt0 HBW hb2;have hr2:=HR1.ext hb2;clear b0 b1 b2 b3 b4;have b0:=hr2.k0;have b1:=hr2.k1;have b2:=hr2.k2;have b3:=hr2.k3;have b4:=hr2.k4;clear hr2)
     go_ret;exact⟨rfl,HB2⟩
    by_cases hc0:0≤en
    case neg=>
     have hd0:decide (0≤en)=false:=decide_eq_false hc0;obtain rfl:Q=false:=by rw[hq];simp only[Bool.true_and];first|exact hd0|(rw[hd0];simp)
     clear hq;go_wp2_with (go_at_call 168;refine mh0 (HBB _) fun w2 hb2=> ?_;have HB2:=bt0 HBW hb2;have hr2:=HR1.ext hb2;clear b0 b1 b2 b3 b4;have b0:=hr2.k0;have b1:=hr2.k1;have b2:=hr2.k2;have b3:=hr2.k3;have b4:=hr2.k4;clear hr2)
     go_ret;exact⟨rfl,HB2⟩
    obtain rfl:Q=true:=by rw[hq];simp [hc0]
    clear hq;go_wp2_with (go_at_call 168;refine mh0 (HBB _) fun w2 hb2=> ?_;have HB2:=bt0 HBW hb2;have hr2:=HR1.ext hb2;clear b0 b1 b2 b3 b4;have b0:=hr2.k0;have b1:=hr2.k1;have b2:=hr2.k2;have b3:=hr2.k3;have b4:=hr2.k4;clear hr2)
    go_ret;exact⟨rfl,HB2⟩
   ·have⟨bb,hbb⟩:=xq (bareB eo en nm N false false true 0);have hq:=HF.out;simp only[rightK,←hbb,if_true,Int.reduceEq,if_false]at hq;have HBB:=hqz9 (fun W=>(show Calls Tryz.prog 168 #[.agg #[I 2,I eo,I en,S nm, .slice aa N ac], .bool false, .bool false, .bool true,I 0] W fun e w'=>e= .returned (.bool bb)∧Below W W w' by rw[hbb];exact HBR false false true 0 W));clear hbb;cases bb
    ·obtain rfl:Q=false:=by rw[hq];simp
     clear hq;go_wp2_with (go_at_call 168;refine mh0 (HBB _) fun w2 hb2=> ?_;have HB2:=bt0 HBW hb2;have hr2:=HR1.ext hb2;clear b0 b1 b2 b3 b4;have b0:=hr2.k0;have b1:=hr2.k1;have b2:=hr2.k2;have b3:=hr2.k3;have b4:=hr2.k4;clear hr2)
     go_ret;exact⟨rfl,HB2⟩
    obtain rfl:Q=nb:=by rw[hq];simp
    clear hq;go_wp2_with (go_at_call 168;refine mh0 (HBB _) fun w2 hb2=> ?_;have HB2:=bt0 HBW hb2;have hr2:=HR1.ext hb2;clear b0 b1 b2 b3 b4;have b0:=hr2.k0;have b1:=hr2.k1;have b2:=hr2.k2;have b3:=hr2.k3;have b4:=hr2.k4;clear hr2)
    go_ret;exact⟨rfl,HB2⟩
   ·have⟨bb,hbb⟩:=xq (bareB eo en nm N true false false 1);have hq:=HF.out;simp only[rightK,←hbb,if_true,Int.reduceEq,if_false]at hq;have HBB:=hqz9 (fun W=>(show Calls Tryz.prog 168 #[.agg #[I 3,I eo,I en,S nm, .slice aa N ac], .bool true, .bool false, .bool false,I 1] W fun e w'=>e= .returned (.bool bb)∧Below W W w' by rw[hbb];exact HBR true false false 1 W));clear hbb;cases bb
    ·obtain rfl:Q=false:=by rw[hq];simp
     clear hq;go_wp2_with (go_at_call 168;refine mh0 (HBB _) fun w2 hb2=> ?_;have HB2:=bt0 HBW hb2;have hr2:=HR1.ext hb2;clear b0 b1 b2 b3 b4;have b0:=hr2.k0;have b1:=hr2.k1;have b2:=hr2.k2;have b3:=hr2.k3;have b4:=hr2.k4;clear hr2)
     go_ret;exact⟨rfl,HB2⟩
    by_cases hc0:17≤eo
    case neg=>
     have hd0:decide (17≤eo)=false:=decide_eq_false hc0;obtain rfl:Q=false:=by rw[hq];simp only[Bool.true_and];first|exact hd0|(rw[hd0];simp)
     clear hq;go_wp2_with (go_at_call 168;refine mh0 (HBB _) fun w2 hb2=> ?_;have HB2:=bt0 HBW hb2;have hr2:=HR1.ext hb2;clear b0 b1 b2 b3 b4;have b0:=hr2.k0;have b1:=hr2.k1;have b2:=hr2.k2;have b3:=hr2.k3;have b4:=hr2.k4;clear hr2)
     go_ret;exact⟨rfl,HB2⟩
    by_cases hc1:eo≤19
    case neg=>
     have hd1:decide (eo≤19)=false:=decide_eq_false hc1;obtain rfl:Q=false:=by rw[hq];simp only[Bool.true_and];first|exact hd1|(rw[hd1];simp)
     clear hq;go_wp2_with (go_at_call 168;refine mh0 (HBB _) fun w2 hb2=> ?_;have HB2:=bt0 HBW hb2;have hr2:=HR1.ext hb2;clear b0 b1 b2 b3 b4;have b0:=hr2.k0;have b1:=hr2.k1;have b2:=hr2.k2;have b3:=hr2.k3;have b4:=hr2.k4;clear hr2)
     go_ret;exact⟨rfl,HB2⟩
    obtain rfl:Q=true:=by rw[hq];simp [hc0,hc1]
    clear hq;go_wp2_with (go_at_call 168;refine mh0 (HBB _) fun w2 hb2=> ?_;have HB2:=bt0 HBW hb2;have hr2:=HR1.ext hb2;clear b0 b1 b2 b3 b4;have b0:=hr2.k0;have b1:=hr2.k1;have b2:=hr2.k2;have b3:=hr2.k3;have b4:=hr2.k4;clear hr2)
    go_ret;exact⟨rfl,HB2⟩
   ·have⟨bb,hbb⟩:=xq (bareB eo en nm N true false false 2);have hq:=HF.out;simp only[rightK,←hbb,if_true,Int.reduceEq,if_false]at hq;have HBB:=hqz9 (fun W=>(show Calls Tryz.prog 168 #[.agg #[I 4,I eo,I en,S nm, .slice aa N ac], .bool true, .bool false, .bool false,I 2] W fun e w'=>e= .returned (.bool bb)∧Below W W w' by rw[hbb];exact HBR true false false 2 W));clear hbb;cases bb
    ·obtain rfl:Q=false:=by rw[hq];simp
     clear hq;go_wp2_with (go_at_call 168;refine mh0 (HBB _) fun w2 hb2=> ?_;have HB2:=bt0 HBW hb2;have hr2:=HR1.ext hb2;clear b0 b1 b2 b3 b4;have b0:=hr2.k0;have b1:=hr2.k1;have b2:=hr2.k2;have b3:=hr2.k3;have b4:=hr2.k4;clear hr2)
     go_ret;exact⟨rfl,HB2⟩
    by_cases hc0:1≤eo
    case neg=>
     have hd0:decide (1≤eo)=false:=decide_eq_false hc0;obtain rfl:Q=false:=by rw[hq];simp only[Bool.true_and];first|exact hd0|(rw[hd0];simp)
     clear hq;go_wp2_with (go_at_call 168;refine mh0 (HBB _) fun w2 hb2=> ?_;have HB2:=bt0 HBW hb2;have hr2:=HR1.ext hb2;clear b0 b1 b2 b3 b4;have b0:=hr2.k0;have b1:=hr2.k1;have b2:=hr2.k2;have b3:=hr2.k3;have b4:=hr2.k4;clear hr2)
     go_ret;exact⟨rfl,HB2⟩
    by_cases hc1:eo≤16
    case neg=>
     have hd1:decide (eo≤16)=false:=decide_eq_false hc1;obtain rfl:Q=false:=by rw[hq];simp only[Bool.true_and];first|exact hd1|(rw[hd1];simp)
     clear hq;go_wp2_with (go_at_call 168;refine mh0 (HBB _) fun w2 hb2=> ?_;have HB2:=bt0 HBW hb2;have hr2:=HR1.ext hb2;clear b0 b1 b2 b3 b4;have b0:=hr2.k0;have b1:=hr2.k1;have b2:=hr2.k2;have b3:=hr2.k3;have b4:=hr2.k4;clear hr2)
     go_ret;exact⟨rfl,HB2⟩
    obtain rfl:Q=true:=by rw[hq];simp [hc0,hc1]
    clear hq;go_wp2_with (go_at_call 168;refine mh0 (HBB _) fun w2 hb2=> ?_;have HB2:=bt0 HBW hb2;have hr2:=HR1.ext hb2;clear b0 b1 b2 b3 b4;have b0:=hr2.k0;have b1:=hr2.k1;have b2:=hr2.k2;have b3:=hr2.k3;have b4:=hr2.k4;clear hr2)
    go_ret;exact⟨rfl,HB2⟩
   ·have⟨bb,hbb⟩:=xq (bareB eo en nm N false false true (N:Int));have hq:=HF.out;simp only[rightK,←hbb,if_true,Int.reduceEq,if_false]at hq;have HBB:=hqz9 (fun W=>(show Calls Tryz.prog 168 #[.agg #[I 5,I eo,I en,S nm, .slice aa N ac], .bool false, .bool false, .bool true,I (N:Int)] W fun e w'=>e= .returned (.bool bb)∧Below W W w' by rw[hbb];exact HBR false false true (N:Int) W));clear hbb;cases bb
    ·obtain rfl:Q=false:=by rw[hq];simp
     clear hq;go_wp2_with (go_at_call 168;refine mh0 (HBB _) fun w2 hb2=> ?_;have HB2:=bt0 HBW hb2;have hr2:=HR1.ext hb2;clear b0 b1 b2 b3 b4;have b0:=hr2.k0;have b1:=hr2.k1;have b2:=hr2.k2;have b3:=hr2.k3;have b4:=hr2.k4;clear hr2)
     go_ret;exact⟨rfl,HB2⟩
    cases nb
    ·obtain rfl:Q=false:=by rw[hq];simp
     clear hq;go_wp2_with (go_at_call 168;refine mh0 (HBB _) fun w2 hb2=> ?_;have HB2:=bt0 HBW hb2;have hr2:=HR1.ext hb2;clear b0 b1 b2 b3 b4;have b0:=hr2.k0;have b1:=hr2.k1;have b2:=hr2.k2;have b3:=hr2.k3;have b4:=hr2.k4;clear hr2)
     go_ret;exact⟨rfl,HB2⟩
    by_cases hc0:N≤6
    case neg=>
     have hd0:decide ((N:Int)≤6)=false:=so0;obtain rfl:Q=false:=by rw[hq];simp [hc0]
     clear hq;go_wp2_with (go_at_call 168;refine mh0 (HBB _) fun w2 hb2=> ?_;have HB2:=bt0 HBW hb2;have hr2:=HR1.ext hb2;clear b0 b1 b2 b3 b4;have b0:=hr2.k0;have b1:=hr2.k1;have b2:=hr2.k2;have b3:=hr2.k3;have b4:=hr2.k4;clear hr2)
     go_ret;exact⟨rfl,HB2⟩
    have hd0:(N:Int)≤6:=om0;obtain rfl:Q=true:=by rw[hq];simp [hc0]
    clear hq;go_wp2_with (go_at_call 168;refine mh0 (HBB _) fun w2 hb2=> ?_;have HB2:=bt0 HBW hb2;have hr2:=HR1.ext hb2;clear b0 b1 b2 b3 b4;have b0:=hr2.k0;have b1:=hr2.k1;have b2:=hr2.k2;have b3:=hr2.k3;have b4:=hr2.k4;clear hr2)
    go_ret;exact⟨rfl,HB2⟩
   ·have⟨bb,hbb⟩:=xq (bareB eo en nm N false false true 1);have hq:=HF.out;simp only[rightK,←hbb,if_true,Int.reduceEq,if_false]at hq;have HBB:=hqz9 (fun W=>(show Calls Tryz.prog 168 #[.agg #[I 6,I eo,I en,S nm, .slice aa N ac], .bool false, .bool false, .bool true,I 1] W fun e w'=>e= .returned (.bool bb)∧Below W W w' by rw[hbb];exact HBR false false true 1 W));clear hbb;cases bb
    ·obtain rfl:Q=false:=by rw[hq];simp
     clear hq;go_wp2_with (go_at_call 168;refine mh0 (HBB _) fun w2 hb2=> ?_;have HB2:=bt0 HBW hb2;have hr2:=HR1.ext hb2;clear b0 b1 b2 b3 b4;have b0:=hr2.k0;have b1:=hr2.k1;have b2:=hr2.k2;have b3:=hr2.k3;have b4:=hr2.k4;clear hr2)
     go_ret;exact⟨rfl,HB2⟩
    obtain rfl:Q=nb:=by rw[hq];simp
    clear hq;go_wp2_with (go_at_call 168;refine mh0 (HBB _) fun w2 hb2=> ?_;have HB2:=bt0 HBW hb2;have hr2:=HR1.ext hb2;clear b0 b1 b2 b3 b4;have b0:=hr2.k0;have b1:=hr2.k1;have b2:=hr2.k2;have b3:=hr2.k3;have b4:=hr2.k4;clear hr2)
    go_ret;exact⟨rfl,HB2⟩
   ·have⟨bb,hbb⟩:=xq (bareB eo en nm N false false false 0);have hq:=HF.out;simp only[rightK,←hbb,if_true,Int.reduceEq,if_false]at hq;have HBB:=hqz9 (fun W=>(show Calls Tryz.prog 168 #[.agg #[I 7,I eo,I en,S nm, .slice aa N ac], .bool false, .bool false, .bool false,I 0] W fun e w'=>e= .returned (.bool bb)∧Below W W w' by rw[hbb];exact HBR false false false 0 W));clear hbb;cases bb
    ·obtain rfl:Q=false:=by rw[hq];simp
     clear hq;go_wp2_with (go_at_call 168;refine mh0 (HBB _) fun w2 hb2=> ?_;have HB2:=bt0 HBW hb2;have hr2:=HR1.ext hb2;clear b0 b1 b2 b3 b4;have b0:=hr2.k0;have b1:=hr2.k1;have b2:=hr2.k2;have b3:=hr2.k3;have b4:=hr2.k4;clear hr2)
     go_ret;exact⟨rfl,HB2⟩
    obtain rfl:Q=true:=by rw[hq];simp
    clear hq;go_wp2_with (go_at_call 168;refine mh0 (HBB _) fun w2 hb2=> ?_;have HB2:=bt0 HBW hb2;have hr2:=HR1.ext hb2;clear b0 b1 b2 b3 b4;have b0:=hr2.k0;have b1:=hr2.k1;have b2:=hr2.k2;have b3:=hr2.k3;have b4:=hr2.k4;clear hr2)
    go_ret;exact⟨rfl,HB2⟩
   ·have hq:=HF.out;simp only[rightK,h1,h2,h3,h4,h5,h6,h7,if_false]at hq;have k1:(ek==1)=false:=bn0 h1;have k2:(ek==2)=false:=bn0 h2;have k3:(ek==3)=false:=bn0 h3;have k4:(ek==4)=false:=bn0 h4;have k5:(ek==5)=false:=bn0 h5;have k6:(ek==6)=false:=bn0 h6;have k7:(ek==7)=false:=bn0 h7;obtain rfl:Q=false:=hq;clear h1 h2 h3 h4 h5 h6 h7;go_wp2;go_ret;exact⟨rfl,HBW⟩
theorem right65_ok:∀d,RightOk d
 |0=>fun x B W C ha hs hr=>hr.elim
 |d+1=>fun x B W C ha hs hr=>right65_step (right65_ok d) x ha hs (C 4) W B hr.2.2.2.2
set_option maxRecDepth 100000 in
set_option maxHeartbeats 2000000 in
theorem rightExpr39_any (e:LE) (ha:AscE e) (hs:ShortE e) (av:Value) (w:World) (B:Nat→Prop) (hx:EX B w av e):CR 66 #[eV e av] w (.bool (bP (okE 40 e))):=by
 have hx1:=hx.alloc (o:= .cells (eB e av) 57);have HR:=hqz9 (show Row (w.alloc (.cells (eB e av) 57)) w 57 (eRow e av)from heap_new _ _);have HB1:=hqz9 (below_a1 w (.cells (eB e av) 57));have HX1:=hqz9 hx1;have hd:=deep64_any 41 om0 e av _ B hx1;have hw:=fun W (hh:EX B W av e)=>(show Calls Tryz.prog 106 #[eV e av] W fun e' w'=>e'= .returned (.bool (bP (wellP e)))∧Below W W w' by
  obtain⟨d,hd⟩:=hh;exact right65_step (right65_ok d) e ha hs av W B hd)
 have⟨p,hp⟩:=xq (depthC 41 e);have⟨q,hq⟩:=xq (bP (wellP e));have hfin:bP (okE 40 e)=(decide (p≤40)&&q):=by
  rw[Bool.eq_iff_iff,bP_iff,okE_iff,hp,hq,Bool.and_eq_true,bP_iff,decide_eq_true_eq,depthC_iff]
 have hpb:p≤1000:=by rw[hp];have:=depthC_le 41 e;omega
 rw[hfin];rw[←hp]at hd;rw[←hq]at hw;have HD:=hqz9 hd;have HW:=hqz9 hw;clear hx hx1 ha hs hd hw hp hq hfin;by_cases h40:p≤40
 case neg=>
  have hz: ¬(p:Int)≤40:=om0;rw[decide_eq_false h40];go_enter Tryz.func66,Tryz.ntmps66;go_wp2_with (go_at_call 105;refine mh0 HD fun w1 hb1=> ?_;have HB2:=hqz9 (HB1.out.trans (hb1.mono sm0)))
  go_ret;exact⟨rfl,HB2⟩
 ·have hz:(p:Int)≤40:=om0;rw[decide_eq_true h40];go_enter Tryz.func66,Tryz.ntmps66;go_wp2_with (first|(go_at_call 105;refine mh0 HD fun w1 hb1=> ?_;have HB2:=hqz9 (HB1.out.trans (hb1.mono sm0));have HX2:=hqz9 (HX1.below hb1);have hr2:=HR.ext hb1;have c0:=hr2.cell 0;have c1:=hr2.cell 1;have c2:=hr2.cell 2;have c3:=hr2.cell 3;have c4:=hr2.cell 4;simp only[eRow,List.getElem?_cons_succ,List.getElem?_cons_zero]at c0 c1 c2 c3 c4;clear hr2)|(go_at_call 106;refine mh0 (HW _ HX2) fun w2 hb2=> ?_;have HB3:=bt0 HB2 hb2))
  go_ret;exact⟨rfl,HB3⟩
end
section
open Go.RowKit Go.Shelf
attribute [local go_sem] Oper.semAt_some
def farC:Nat→List LS→Nat
 |0,_=>0
 |m+1,l=>l.foldl (fun n s=>max n (max (1+farC m s.thn) (1+farC m s.els))) 0
def deepS:Nat→LS→Prop
 |0,_=>False
 |d+1,s=>(∀x∈s.thn,deepS d x)∧∀x∈s.els,deepS d x
theorem farC_iff:∀(m:Nat) (l:List LS),farC (m+2) l≤m↔∀x∈l,deepS m x
 |0,l=>by
  rw[farC,fold_max_le]
  constructor
  ·intro h x hx
   have:=h.2 x hx
   omega
  ·intro h
   exact⟨Nat.le_refl _,fun x hx=>(h x hx).elim⟩
 |m+1,l=>by
  rw[farC,fold_max_le]
  constructor
  ·intro h x hx
   have h1:=h.2 x hx
   exact⟨(farC_iff m x.thn).1 om0,(farC_iff m x.els).1 om0⟩
  ·intro h
   refine⟨om0,fun x hx=> ?_⟩
   have h1:=(farC_iff m x.thn).2 (h x hx).1
   have h2:=(farC_iff m x.els).2 (h x hx).2
   omega
theorem farC_le:∀(m:Nat) (l:List LS),farC m l≤m
 |0,l=>Nat.le_refl _
 |m+1,l=>by
  rw[farC,fold_max_le]
  refine⟨om0,fun x hx=> ?_⟩
  have h1:=farC_le m x.thn
  have h2:=farC_le m x.els
  omega
theorem okS_mono:∀{d d':Nat} (_:d≤d') {s:LS},okS d s→okS d' s
 |0,_,_,_,h=>h.elim
 |d+1,0,hl,_,_=>absurd hl om0
 |d+1,d'+1,hl,_,h=>⟨h.1,h.2.1,h.2.2.1,h.2.2.2.1,h.2.2.2.2.1,h.2.2.2.2.2.1,h.2.2.2.2.2.2.1,fun x hx=>okS_mono om0 (h.2.2.2.2.2.2.2.1 x hx),fun x hx=>okS_mono om0 (h.2.2.2.2.2.2.2.2 x hx)⟩
def wellS (s:LS):Prop:=∃d,okS d s
def ownS (s:LS):Prop:=((1≤s.kind∧s.kind≤10)∧(s.kind=10→∀a∈s.args,a.kind=5))∧s.args.length=(formL s.kind).args∧((formL s.kind).thn=false→s.thn= [])∧((formL s.kind).more=false→s.els= [])∧
  ((formL s.kind).named=true→Asc s.name∧isName s.name=true)∧((formL s.kind).named=false→s.name= [])∧(∀x∈s.args,okE 40 x)
theorem wellS_iff (s:LS):wellS s↔ownS s∧(∀x∈s.thn,wellS x)∧∀x∈s.els,wellS x:=by
 constructor
 ·rintro⟨d,h⟩;cases d with
  |zero=>exact h.elim
  |succ d=>exact⟨⟨h.1,h.2.1,h.2.2.1,h.2.2.2.1,h.2.2.2.2.1,h.2.2.2.2.2.1,h.2.2.2.2.2.2.1⟩,fun x hx=>⟨d,h.2.2.2.2.2.2.2.1 x hx⟩,fun x hx=>⟨d,h.2.2.2.2.2.2.2.2 x hx⟩⟩
 ·rintro⟨h1,h2,h3⟩;obtain⟨d1,hd1⟩:=exists_max (P:=okS) (fun{a b} hab {x} h=>okS_mono hab h) s.thn h2;obtain⟨d2,hd2⟩:=exists_max (P:=okS) (fun{a b} hab {x} h=>okS_mono hab h) s.els h3;exact⟨max d1 d2+1,h1.1,h1.2.1,h1.2.2.1,h1.2.2.2.1,h1.2.2.2.2.1,h1.2.2.2.2.2.1,h1.2.2.2.2.2.2,fun x hx=>okS_mono (Nat.le_max_left _ _) (hd1 x hx),fun x hx=>okS_mono (Nat.le_max_right _ _) (hd2 x hx)⟩
theorem okS_iff:∀(d:Nat) (s:LS),okS d s↔deepS d s∧wellS s
 |0,s=>⟨fun h=>h.elim,fun h=>h.1.elim⟩
 |d+1,s=>by
  constructor
  ·intro h
   exact⟨⟨fun x hx=>((okS_iff d x).1 (h.2.2.2.2.2.2.2.1 x hx)).1,fun x hx=>((okS_iff d x).1 (h.2.2.2.2.2.2.2.2 x hx)).1⟩,d+1,h⟩
  ·rintro⟨⟨h1,h2⟩,h3⟩
   obtain⟨k1,k2,k3⟩:=(wellS_iff s).1 h3
   exact⟨k1.1,k1.2.1,k1.2.2.1,k1.2.2.2.1,k1.2.2.2.2.1,k1.2.2.2.2.2.1,k1.2.2.2.2.2.2,fun x hx=>(okS_iff d x).2 ⟨h1 x hx,k2 x hx⟩,fun x hx=>(okS_iff d x).2 ⟨h2 x hx,k3 x hx⟩⟩
theorem body_iff (l:List LS):(∀x∈l,okS 40 x)↔farC 42 l≤40∧∀x∈l,wellS x:=by
 rw[show farC 42 l=farC (40+2) l from rfl,farC_iff];exact⟨fun h=>⟨fun x hx=>((okS_iff 40 x).1 (h x hx)).1,fun x hx=>⟨40,h x hx⟩⟩,fun h x hx=>(okS_iff 40 x).2 ⟨h.1 x hx,h.2 x hx⟩⟩
def FarR (m:Nat):Prop:=∀(l:List LS) (v:Value) (w:World) (B:Nat→Prop),SX B w v l→CR 40 #[v,I (m:Int)] w (I (farC m l))
set_option maxRecDepth 100000 in
set_option maxHeartbeats 8000000 in
theorem far95_step (m:Nat) (hm:m≤1000) (ih:∀j,m=j+1→FarR j):FarR m:=by
 intro l v w B hx;obtain⟨Q,hQ⟩:∃Q:Nat,Q=farC m l:=⟨_,rfl⟩;rw[←hQ];have HQ:=hqz9 hQ;obtain⟨aa,ac,rfl⟩:=hx.slice;obtain⟨d,hx⟩:=hx;have⟨N,hN⟩:=xq l.length;have hNb:N≤1000000000:=by
  obtain⟨_,_,_,h, -⟩:=id hx;omega
 rw[←hN];have HX:=hqz9 hx;have HN:=hqz9 hN;have HI:=hqz9 ih;clear hx hQ hN ih;go_enter Tryz.func40,Tryz.ntmps40;go_wp2;go_loopg [5,6] N (fun gh n i wr=>∃(k q:Nat),gh+k=N∧i=I k∧n=I q∧q≤1001∧Hid (Below w w wr∧(m=0→k=0)∧q=(l.take k).foldl (fun n s=>max n (max (1+farC (m - 1) s.thn) (1+farC (m - 1) s.els))) 0))
 case atStart=>exact⟨0,0,om0,rfl,rfl,om0,hqz9 ⟨Below.refl _ _,fun _=>rfl,rfl⟩⟩
 case round=>
  obtain⟨k,q,hg,rfl,rfl,hqb,HH⟩:=hrel;obtain⟨wo,rfl⟩:=xq wr;by_cases hgo:k<N∧0<m
  ·obtain⟨hlt,hm0⟩:=hgo;have hltz:(k:Int)<(N:Int):=om0;have hmz':0<(m:Int):=om0;have hlt':k<l.length:=by rw[←HN.out];exact hlt
   obtain⟨j,hmj⟩:∃j,m=j+1:=⟨m - 1,om0⟩;obtain⟨b,o,C,rfl,_,hC,hrx⟩:=(show RSlB B 5 (RS d B) wo (.slice aa l.length ac) l from HX.below HH.out.1 (fun C x h=>RS.below HH.out.1 h)).at hlt';have e3:=hC 3 om0;have e4:=hC 4 om0;obtain⟨-, -,ht,he⟩:=hrx.ev;have⟨x,hxk⟩:=xq (l[k]);rw[←hxk]at ht he;obtain⟨ta,tc,hta⟩:=ht.slice;obtain⟨ea,ec,hea⟩:=he.slice;rw[hta]at e3 ht;rw[hea]at e4 he;have hct:=fun W (hh:SX B W (.slice ta x.thn.length tc) x.thn)=>HI.out j hmj x.thn _ W B hh
   have hce:=fun W (hh:SX B W (.slice ea x.els.length ec) x.els)=>HI.out j hmj x.els _ W B hh
   have⟨tn,htn⟩:=xq x.thn.length;have⟨en,hen⟩:=xq x.els.length;have⟨tq,htq⟩:=xq (farC j x.thn);have⟨eq,heq⟩:=xq (farC j x.els);rw[←htn]at hct ht e3;rw[←hen]at hce he e4;rw[←htq,show(j:Int)=(m:Int) - 1 by omega]at hct;rw[←heq,show(j:Int)=(m:Int) - 1 by omega]at hce;have htb:tq≤1000:=by have:=farC_le j x.thn;omega
   have heb:eq≤1000:=by have:=farC_le j x.els;omega
   have HCT:=hqz9 hct;have HCE:=hqz9 hce;have HT:=hqz9 ht;have HE:=hqz9 he;have HXK:=hqz9 hxk;have HTQ:=hqz9 htq;have HEQ:=hqz9 heq;have HMJ:=hqz9 hmj;have HE3:=hqz9 e3;have HE4:=hqz9 e4;clear hC hrx ht he hct hce hxk htq heq hmj hta hea htn hen;clear e3 e4;have hw1:IntKind.i64.wrap (1+(tq:Int))=1+tq:=wrap_small _ om0 om0;have hw2:IntKind.i64.wrap (1+(eq:Int))=1+eq:=wrap_small _ om0 om0;go_upto_region 5 with(fail)
   refine rX0 (fun W=>W.cell? (b,o+k*5+3)=some (.slice ta tn tc)∧W.cell? (b,o+k*5+4)=some (.slice ea en ec)) [(0,0),(0,1),(0,2),(0,3),(0,4),(0,5),(0,6),(0,7),(0,10),(0,11),(0,12),(0,13),(0,14),(0,15),(0,16),(1,8),(0,9),(1,17),(0,18),(0,19),(0,20)] (fun wd hh=>⟨cu0 hh HE3,cu0 hh HE4⟩) fun wd hh hgd hS=> ?_;have HBD:=hqz9 (show Below wo wo wd from(Below.refl _ _).grown hgd nl0 nx0);clear hh hgd;refine lkQ ?_;go_wp2_with (go_at_call 40;refine mh0 (HCT _ (HT.below HBD)) fun w1 hb1=> ?_;have HB1:=bt0 HBD hb1)
   clear hS;refine QN_keep ⟨gcell HE3 (bg0 HB1) sm0,gcell HE4 (bg0 HB1) sm0⟩ fun hS=> ?_;refine lkA ?_;refine wpOrd_turn ?_;go_wp2_with (go_at_call 40;refine mh0 (HCE _ (HE.below HB1)) fun w2 hb2=> ?_;have HB2:=bt0 HB1 hb2)
   clear hS;refine QN_keep ⟨gcell HE3 (bg0 HB2) sm0,gcell HE4 (bg0 HB2) sm0⟩ fun hS=> ?_;refine lkM ?_;clear hS;go_wp2
   all_goals
    go_roundg (N - (k+1))
    case measure=>omega
    case rel=>
     refine⟨k+1,max q (max (1+tq) (1+eq)),om0,by go_num,congrArg (fun n:Int=>Value.int .i64 n) ?_,om0,hqz9 ⟨HH.out.1.trans (HB2.mono HH.out.1.size),fun h=>by omega, ?_⟩⟩
     ·(try rw[hw1]at*)
      (try rw[hw2]at*)
      omega
     ·rw[List.take_succ_eq_append_getElem hlt',List.foldl_append,←HH.out.2.2];show max q (max (1+tq) (1+eq))=max q (max (1+farC (m - 1) l[k].thn) (1+farC (m - 1) l[k].els));rw[←HXK.out,HTQ.out,HEQ.out,show m - 1=j by have:=HMJ.out;omega]
  ·have hend:Q=q:=by
    rw[HQ.out];cases m with
    |zero=>
     obtain rfl:=HH.out.2.1 rfl;rw[HH.out.2.2];rfl
    |succ j=>
     have hk:N≤k:=om0;rw[HH.out.2.2,farC,List.take_of_length_le (oq0 HN)];rfl
   obtain rfl:Q=q:=hend;by_cases hlt:k<N
   ·have hltz:(k:Int)<(N:Int):=om0;have hm0: ¬0<(m:Int):=om0;go_wp2;go_ret;exact⟨rfl,HH.out.1⟩
   ·have hltz: ¬(k:Int)<(N:Int):=om0;go_wp2;go_ret;exact⟨rfl,HH.out.1⟩
theorem far95_any:∀(m:Nat),m≤1000→FarR m
 |0,h=>far95_step 0 h nx0
 |m+1,h=>far95_step (m+1) h (fun j e=>by
   obtain rfl:j=m:=om0
   exact far95_any j om0)
end
section
open Go.RowKit Go.Shelf
mutual
def linS:LS→Nat
 |.mk k _ _ t e=>if k=3∨k=4 then 2+linL t+(if e.isEmpty then 0 else 1+linL e) else 1
def linL:List LS→Nat
 |[]=>0
 |s::l=>linS s+linL l
end
mutual
def offS:LS→Nat→List Nat
 |.mk k _ _ t e,b=>b::(if k=3∨k=4 then offL t (b+1)++(if e.isEmpty then [] else offL e (b+2+linL t)) else [])
def offL:List LS→Nat→List Nat
 |[],_=>[]
 |s::l,b=>offS s b++offL l (b+linS s)
end
mutual
def fineS:LS→Prop
 |.mk k _ _ t e=>(k≠3→k≠4→t= []∧e= [])∧(k=4→e= [])∧fineL t∧fineL e
def fineL:List LS→Prop
 |[]=>True
 |s::l=>fineS s∧fineL l
end
theorem linL_app:∀(a b:List LS),linL (a++b)=linL a+linL b
 |[],b=>by simp [linL]
 |s::a,b=>by
  have:=linL_app a b
  rw[List.cons_append,linL,linL,this]
  omega
theorem offL_app:∀(a b:List LS) (n:Nat),offL (a++b) n=offL a n++offL b (n+linL a)
 |[],b,n=>by simp [offL,linL]
 |s::a,b,n=>by
  have:=offL_app a b (n+linS s)
  rw[List.cons_append,offL,offL,linL,this,List.append_assoc,Nat.add_assoc]
theorem linL_one (s:LS):linL [s]=linS s:=by simp [linL]
theorem offL_one (s:LS) (b:Nat):offL [s] b=offS s b:=by simp [offL]
mutual
theorem offS_add:∀(s:LS) (b c:Nat),offS s (b+c)=(offS s b).map (·+c)
 |.mk k _ _ t e,b,c=>by
  simp only[offS]
  rw[List.map_cons]
  congr 1
  split
  ·rw[List.map_append,show b+c+1=b+1+c by omega,offL_add t (b+1) c]
   congr 1
   split
   ·rfl
   ·rw[show b+c+2+linL t=b+2+linL t+c by omega,offL_add e _ c]
  ·rfl
theorem offL_add:∀(l:List LS) (b c:Nat),offL l (b+c)=(offL l b).map (·+c)
 |[],b,c=>rfl
 |s::l,b,c=>by
  simp only[offL]
  rw[List.map_append,offS_add s b c,show b+c+linS s=b+linS s+c by omega,offL_add l _ c]
end
theorem offL_len (l:List LS) (b:Nat):(offL l b).length=(offL l 0).length:=by
 have:=offL_add l 0 b
 rw[Nat.zero_add]at this
 rw[this,List.length_map]
theorem offS_len (l:LS) (b:Nat):(offS l b).length=(offS l 0).length:=by
 have:=offS_add l 0 b
 rw[Nat.zero_add]at this
 rw[this,List.length_map]
mutual
theorem linS_le:∀s:LS,linS s≤3*totS s
 |.mk k _ _ t e=>by
  have h1:=linL_le t;have h2:=linL_le e
  simp only[linS,totS]
  split
  ·split<;>omega
  ·omega
theorem linL_le:∀l:List LS,linL l≤3*totL l
 |[]=>by simp [linL]
 |s::l=>by
  have h1:=linS_le s;have h2:=linL_le l
  simp only[linL,totL]
  omega
end
mutual
theorem offS_le:∀s:LS,(offS s 0).length≤totS s
 |.mk k _ _ t e=>by
  have h1:=offL_le t;have h2:=offL_le e
  have h3:=offL_len t (0+1);have h4:=offL_len e (0+2+linL t)
  simp only[offS,totS,List.length_cons]
  split
  ·rw[List.length_append]
   split
   ·simp only[List.length_nil];omega
   ·omega
  ·simp only[List.length_nil];omega
theorem offL_le:∀l:List LS,(offL l 0).length≤totL l
 |[]=>by simp [offL]
 |s::l=>by
  have h1:=offS_le s;have h2:=offL_le l
  have h3:=offL_len l (0+linS s)
  simp only[offL,totL,List.length_append]
  omega
end
mutual
theorem offS_lt:∀(s:LS) (b:Nat),∀x∈offS s b,b≤x∧x<b+linS s
 |.mk k _ _ t e,b,x,hx=>by
  simp only[offS,List.mem_cons]at hx
  simp only[linS]
  rcases hx with rfl|hx
  ·split<;>omega
  ·split at hx
   ·rename_i hk
    rw[if_pos hk]
    rcases List.mem_append.1 hx with hx|hx
    ·have:=offL_lt t (b+1) x hx;omega
    ·split at hx
     ·cases hx
     ·rename_i he
      have:=offL_lt e _ x hx
      rw[if_neg he]
      omega
   ·cases hx
theorem offL_lt:∀(l:List LS) (b:Nat),∀x∈offL l b,b≤x∧x<b+linL l
 |[],b,x,hx=>by cases hx
 |s::l,b,x,hx=>by
  simp only[offL]at hx
  simp only[linL]
  rcases List.mem_append.1 hx with hx|hx
  ·have:=offS_lt s b x hx;omega
  ·have:=offL_lt l _ x hx;omega
end
def fnd (os:List Nat) (n want found:Int):Int:=if n≤want∧want<n+os.length then ((os[(want-n).toNat]?).getD 0:Nat) else found
theorem fnd_nil (n want found:Int):fnd [] n want found=found:=by
 unfold fnd
 rw[if_neg (by simp)]
theorem fnd_one (b:Nat) (n want found:Int):fnd [b] n want found=if n=want then (b:Int) else found:=by
 unfold fnd
 simp only[List.length_cons,List.length_nil]
 by_cases h:n=want
 ·subst h
  rw[if_pos (by omega),if_pos rfl]
  simp
 ·rw[if_neg (by omega),if_neg h]
theorem fnd_app (a b:List Nat) (n want found:Int):fnd (a++b) n want found=fnd b (n+a.length) want (fnd a n want found):=by
 unfold fnd
 rw[List.length_append]
 by_cases h1:n≤want∧want<n+a.length
 ·rw[if_pos (by omega),if_neg (by omega),if_pos h1,List.getElem?_append_left (by omega)]
 ·by_cases h2:n+a.length≤want∧want<n+a.length+b.length
  ·rw[if_pos (by omega),if_pos h2,List.getElem?_append_right (by omega)]
   congr 3
   omega
  ·rw[if_neg (by omega),if_neg h2,if_neg h1]
def plc (os:List Nat) (k:Int):Int:=if 0≤k∧k<os.length then ((os[k.toNat]?).getD 0:Nat) else -(os.length:Int)-1
mutual
theorem well_fine:∀s:LS,wellS s→fineS s
 |.mk k n a t e,h=>by
  obtain⟨h1,h2,h3⟩:=(wellS_iff _).1 h
  obtain⟨-,-,h4,h5,-⟩:=h1
  have h4:(formL k).thn=false→t= []:=h4
  have h5:(formL k).more=false→e= []:=h5
  refine⟨fun k3 k4=>?_,fun k4=>?_,well_fineL t h2,well_fineL e h3⟩
  ·have:(formL k).thn=false∧(formL k).more=false:=by
    unfold formL
    split
    ·exact⟨rfl,rfl⟩
    ·split
     ·exact⟨rfl,rfl⟩
     ·split<;>exact⟨rfl,rfl⟩
   exact⟨h4 this.1,h5 this.2⟩
  ·subst k4
   exact h5 rfl
theorem well_fineL:∀l:List LS,(∀x∈l,wellS x)→fineL l
 |[],_=>trivial
 |s::l,h=>⟨well_fine s (h s (List.mem_cons_self ..)),well_fineL l fun x hx=>h x (List.mem_cons_of_mem _ hx)⟩
end
theorem fineL_at:∀(l:List LS) (i:Nat) (h:i<l.length),fineL l→fineS l[i]
 |s::l,0,_,hf=>hf.1
 |s::l,i+1,h,hf=>fineL_at l i (by simpa using h) hf.2
theorem totL_at:∀(l:List LS) (i:Nat) (h:i<l.length),totS l[i]≤totL l
 |s::l,0,_=>by simp only[totL,List.getElem_cons_zero];omega
 |s::l,i+1,h=>by
  have:=totL_at l i (by simpa using h)
  simp only[totL,List.getElem_cons_succ];omega
theorem totL_take:∀(l:List LS) (i:Nat),totL (l.take i)≤totL l
 |[],i=>by simp
 |s::l,0=>by simp [totL]
 |s::l,i+1=>by
  have:=totL_take l i
  simp only[List.take_succ_cons,totL];omega
mutual
theorem dep_far:∀(s:LS) (m:Nat),deepS m s→depS s≤m
 |.mk k n a t e,0,h=>h.elim
 |.mk k n a t e,m+1,h=>by
  have h1:=depL_far t m h.1;have h2:=depL_far e m h.2
  simp only[depS]
  omega
theorem depL_far:∀(l:List LS) (m:Nat),(∀x∈l,deepS m x)→depL l≤m
 |[],m,h=>by simp [depL]
 |s::l,m,h=>by
  have h1:=dep_far s m (h s (List.mem_cons_self ..));have h2:=depL_far l m fun x hx=>h x (List.mem_cons_of_mem _ hx)
  simp only[depL]
  omega
end
end
end Go.Proofs.YtngglbakkedaiaaGreatDoor
