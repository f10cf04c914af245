import Derived.Test.YtjgbkdbkachciaaGreatDoorN8
import Derived.Test.YtjgbkdbkachciaaGreatDoorY8
set_option linter.all false
namespace Go.Proofs.YtjgbkdbkachciaaGreatDoor
set_option maxRecDepth 100000
set_option maxHeartbeats 16000000
section
open Go.RowKit Go.Shelf
attribute [local go_sem] Oper.semAt_some
structure Ic (p:LP):Prop where
 UH:kR p
 okn:s6 p
 cat:∀f∈p.funcs,J9 f
 xp:XP p
 few:p.arrays.length+p.funcs.length<=1000000000
 aj4:∀f∈p.funcs,f.params.length+f.locals.length<=1000000000
theorem Xt {tmps:Array Value} {w:World} {b:Nat} {x y z u:Value} (h6:tmps.getD 6 undef= .pointer (some (b,0))) (hr:Row w b 37 [x,y,z,u]):
  (results Tryz.f17 tmps).run Tryz.prog w= .ok (.agg #[x,y,z,u]) w:=by
 have h6':tmps[6]?.getD undef= .pointer (some (b,0)):=by simpa using h6
 have c0:=hr.k0;have c1:=hr.k1;have c2:=hr.k2;have c3:=hr.k3;simp [results,h6',asAddr,go_sem,c0,c1,c2,c3]
abbrev wK:Array Value:= #[.int .i64 0, .int .i64 0, .slice none 0 0, .int .i64 0]
abbrev aad (st cd:Int) (ov:Value) (n:Int):Value:= .agg #[I st,I cd,ov,I n]
abbrev um (W:World) (v:Value) (l:List Int):Prop:=aP (λb=>b<W.heap.size) 1 RI W v l
theorem um.below {W W':World} {v:Value} {l:List Int} (h:um W v l) (hb:Below W W W'):um W' v l:=(aP.below hb i20 h).weak (λ_b hb'=>aB hb' hb.size) λ_ _ h=>h
theorem Hp (st cd n:Int) (l:List Int) (v1 v2:Value) (W:World) (h1:um W v1 l) (h2:um W v2 l):
  CR 16 #[aad st cd v1 n,aad st cd v2 n] W (.bool true):=by
 obtain⟨a1,c1,rfl,hl, -⟩:=id h1;obtain⟨a2,c2,rfl, -⟩:=id h2;have⟨N,hN⟩:=xq l.length;rw[<-hN]at h1 h2 hl|-;obtain⟨w0,hw0⟩:∃w0,w0=(W.alloc (.cells #[I st,I cd, .slice a1 N c1,I n] 37)).alloc (.cells #[I st,I cd, .slice a2 N c2,I n] 37):=⟨_,rfl⟩;have dO:=hw0.symm;have hb0:Below W W w0:=by rw[hw0];exact nR _ _ _
 have hp0:Row w0 W 37 [I st,I cd, .slice a1 N c1,I n]:=by rw[hw0];exact dV _ _ hn0
 have hs0:Row w0 (W,1) 37 [I st,I cd, .slice a2 N c2,I n]:=by rw[hw0];exact jF aH
 have p0:=hp0.k0;have p1:=hp0.k1;have p2:=hp0.k2;have p3:=hp0.k3;have s0:=hs0.k0;have s1:=hs0.k1;have s2:=hs0.k2;have s3:=hs0.k3;have H1:=aF h1;have H2:=aF h2;have HN:=aF hN;have bg:=aF hb0;have HP:=aF hp0;have HS:=aF hs0;clear h1 h2 hN hw0 hb0 hp0 hs0;go_enter Tryz.func16,Tryz.ntmps16;go_upto_region 3 with(fail)
 clear p0 p1 p2 p3 s0 s1 s2 s3;go_upto_region 4 with(fail)
 go_loopg [5] N (λgh i wr=>∃k:Nat,gh+k=N/\i=I k/\Hid (Below W W wr/\Row wr W 37 [I st,I cd, .slice a1 N c1,I n]/\Row wr (W,1) 37 [I st,I cd, .slice a2 N c2,I n]))
 case atStart=>exact⟨0,rfl,rfl,aF ⟨bg,HP,HS⟩⟩
 case round=>
  obtain⟨k,hg,rfl,HH⟩:=hrel;obtain⟨wo,rfl⟩:=xq wr;have p2:=HH.out.2.1.k2;have s2:=HH.out.2.2.k2;by_cases hlt:k<N
  ·have bT:(k:Int)<(N:Int):=aG;have hkl:k<l.length:=by rw[<-HN.out];exact hlt
   obtain⟨b,o,C,rfl,_,hC,hrx⟩:=(aP.below HH.out.1 i20 H1).at hkl;obtain⟨b',o',C',rfl,_,zw,yQ⟩:=(aP.below HH.out.1 i20 H2).at hkl;have e1:=hC 0 aG;have e2:=zw 0 aG;rw[show C 0=I l[k]from hrx]at e1;rw[show C' 0=I l[k]from yQ]at e2;simp only[Nat.mul_one,aA]at e1 e2;have⟨x,hx⟩:=xq (l[k]);rw[<-hx]at e1 e2;have pY:=aF e1;have lS:=aF e2;clear hC zw hrx yQ hx e1 e2;go_upto_region 6 with(fail)
   refine cC (λX=>X.cell? (W,2)=some (.slice (some (b,o)) N c1)/\X.cell? (W,1,2)=some (.slice (some (b',o')) N c2)/\X.cell? (b,o+k)=some (I x)/\X.cell? (b',o'+k)=some (I x)) [0,0,0,0,0,0,0,0,0,0,0] (λwd hh=>⟨aO HH.out.2.1 hh 2,aO HH.out.2.2 hh 2,eP hh pY,eP hh lS⟩) λwd hh hgd hS=> ?_;have bK:=aF (show Below W W wd/\Row wd W 37 [I st,I cd, .slice (some (b,o)) N c1,I n]/\Row wd (W,1) 37 [I st,I cd, .slice (some (b',o')) N c2,I n]from⟨HH.out.1.grown hgd HH.out.1.size aJ,HH.out.2.1.kept hgd aH,HH.out.2.2.kept hgd aH⟩);clear hh hgd p2 s2 HH;refine Bg ?_;refine dP ?_;clear hS;go_wp2;go_roundg (N - (k+1))
   case measure=>omega
   case rel=>exact⟨k+1,aG,by go_num,bK⟩
  ·have bT: ¬(k:Int)<(N:Int):=aG;go_wp2;go_ret;exact⟨rfl,HH.out.1⟩
theorem afV (c n:Int) (hc:Bh c) (hn:1<=n) (eD:n<=4611686018427387904) (W:World):
  Calls Tryz.prog 15 #[I c,I n] W λe w'=>e= .returned (I (qg c n))/\w'=W:=by
 have hc':=hc;unfold Bh at hc';have hne: ¬n=0:=aG
 by_cases h:c<0
 ·have hp:qg c n= -(c+1).tmod n:=by
   unfold qg;rw[if_pos h,<-Int.neg_tmod,Int.tmod_eq_emod_of_nonneg aG]
  rw[hp];clear hp;go_enter Tryz.func15,Tryz.ntmps15;go_wp2;go_ret;exact⟨rfl,rfl⟩
 ·have hp:qg c n=c%n:=by unfold qg;rw[if_neg h]
  rw[hp];clear hp;go_enter Tryz.func15,Tryz.ntmps15;go_wp2;go_ret;exact⟨rfl,rfl⟩
theorem afI {tmps:Array Value} {w:World} {b:Nat} {x y z u:Value} (h2:tmps.getD 2 undef= .pointer (some (b,0))) (h3:tmps.getD 3 undef=z) (h4:tmps.getD 4 undef=u) (hr:Row w b 27 [x,y]):
  (results Tryz.f23 tmps).run Tryz.prog w= .ok (.tuple #[.agg #[x,y],z,u]) w:=by
 have h2':tmps[2]?.getD undef= .pointer (some (b,0)):=by simpa using h2
 have h3':tmps[3]?.getD undef=z:=by simpa using h3
 have h4':tmps[4]?.getD undef=u:=by simpa using h4
 have c0:=hr.k0;have c1:=hr.k1;simp [results,show Tryz.f23.results= #[.cell 2 27, .tmp 3, .tmp 4]from rfl,h2',h3',h4',asAddr,go_sem,c0,c1]
theorem agX (l0:aK) (ha:eH l0) (hl:l0.length<=20000) (fuel k g:Nat) (lR us:List Tok) (f:LF) (ht:DI fuel 1 l0=some lR) (hg:g<=100000) (he:gq lR) (hp:F5 k g lR=some (f,us)) (hok:kR ⟨[],[f]⟩) (hap:sP ⟨[],[f]⟩) (w:World):
  Calls Tryz.prog 23 #[S l0] w λe w'=>∃fv,e= .returned (.tuple #[.agg #[.slice none 0 0,fv],I 0,I 0])/\PX (w.heap.size<=·) w' (.slice none 0 0) fv ⟨[],[f]⟩/\Below w w w':=by
 have Vl:=aF (λW=>agK l0 ha hl fuel k g lR us f ht hg he hp W);have qP:=aF hok;have HAP:=aF hap;have⟨w0,hw0⟩:=xq (w.alloc (.cells pZ 27));have dO:=hw0.symm;have bg:=aF (gI hw0);have gT:=aF (dZ hw0);clear ha hl ht hg he hp hok hw0;go_enter Tryz.func23,Tryz.ntmps23;go_upto_region 2 with(go_at_call 41;refine(Vl _).mono ?_;rintro e' w1⟨fv,rfl,hx1,hb1⟩;obtain⟨_,_,fa,fc,_,rfl⟩:=hx1.slice;have kF:=aF hx1;have aI:=aU bg hb1;have iy:=bA gT hb1;clear hx1 hb1)
 have⟨w2,hw2⟩:=xq (w1.alloc (.cells #[.slice none 0 0, .slice fa 1 fc] 27));have hb2:=gI hw2;have hr2:=dZ hw2;have eX:=bA iy hb2;have aY:=aF (kF.below hb2);rw[<-hw2];have c0:=hr2.k0;have c1:=hr2.k1;have cB:=aF hr2;have aM:=aU aI hb2;clear hw2 hb2 hr2;go_upto_region 4 with(go_at_call 43;refine aN (QY _ HAP qP _ _ w2 _ aY) λw3 hb3=> ?_;have bL:=bA cB hb3;have fO:=bA eX hb3;have bq:=aF (aY.below hb3);have aW:=aU aM hb3)
 have d0:=bL.k0;have d1:=bL.k1;have⟨w4,hw4⟩:=xq (w3.setRow w #[.slice none 0 0, .slice fa 1 fc]);have aax:=hw4.symm;have hg4:w3.grownBy w4 (some w):=by rw[hw4];exact bJ
 have hr4:Row w4 w 27 [.slice none 0 0, .slice fa 1 fc]:=by rw[hw4];exact setRow_heap _ _ _ _ _ _ fO.out
 have fh:PX (w.heap.size<=·) w4 (.slice none 0 0) (.slice fa 1 fc) ⟨[],[f]⟩:=(bq.grown hg4 (λr e=>by cases e;have:=bg.size;have:=gT.lt;simp;omega)).weak (λb hb=>by have:=gT.lt;have hb:w0.heap.size<=b:=hb;show w.heap.size<=b;omega);have aR:Hid (Below w w w4):=aW.grown hg4 aW.size bh;have bU:=aF hr4;have cI:=aF fh;clear hw4 hg4 hr4 fh c0 c1;go_wp2_with (refine sr 27 (.tmp 2) (.tmp 22) w pZ fO.out ?_;rw[aax])
 refine bodyPost_ret (afI rfl rfl rfl bU.out) rfl ?_;exact⟨_,rfl,cI,aR⟩
end
section
open Go.RowKit Go.Shelf
abbrev J1:aK:= [105,110,116,32,109,97,105,110,40,41,32,123,32,112,114,105,110,116,40,49,32,47,32,114,101,97,100,40,41,41,59,32,114,101,116,117,114,110,32,55,59,32,125]
abbrev UG:LE:= .mk 4 4 0 [] [A6 1, .mk 7 0 0 [] []]
abbrev Pf:LF:=⟨dX,[],[],[.mk 8 [] [UG] [] [], .mk 7 [] [A6 7] [] []]⟩
abbrev Bf:LP:=⟨[],[Pf]⟩
def E8:List Tok:=(DI 100 1 J1).getD []
def aac:List Tok:=((F5 50 100 E8).map (·.2)).getD []
theorem ahY:DI 100 1 J1=some E8:=aL
theorem ahZ:F5 50 100 E8=some (Pf,aac):=aL
theorem ahe:gq E8:=by
 have h:(E8.getLast?.map (·.kind))=some 5:=aL;cases hl:E8.getLast? with
 |none=>rw[hl]at h;cases h
 |some t=>rw[hl]at h;exact⟨t,hl,Option.some.inj h⟩
theorem N7 {l:aK} (h:l.all (λb=>decide (b.toNat<128))=true):eH l:=by
 intro b hb;have:=List.all_eq_true.1 h b hb;simpa using this
theorem aiu:eH J1:=N7 CN
theorem Rl (n:Int) (h:0<=n) (d:Nat):ij (d+1) (A6 n):=⟨.inl ⟨rfl,h,rfl,rfl,rfl⟩,aJ⟩
theorem aiv:ij 40 UG:=by
 refine⟨.inr (.inr (.inr (.inl ⟨rfl,⟨aQ,aQ⟩,rfl,rfl,rfl⟩))),λx hx=> ?_⟩;rcases List.mem_cons.1 hx with rfl|hx
 ·exact Rl 1 aQ _
 rcases List.mem_cons.1 hx with rfl|hx
 ·exact⟨.inr (.inr (.inr (.inr (.inr (.inr ⟨rfl,rfl,rfl,rfl,rfl⟩))))),aJ⟩
 ·cases hx
theorem Zf {k:Int} (hk:k=7\/k=8) (e:LE) (h:ij 40 e) (d:Nat):mC (d+1) (.mk k [] [e] [] []):=by
 rcases hk with rfl|rfl
 ·exact⟨⟨⟨(show(1:Int)<=7 by decide),(show(7:Int)<=10 by decide)⟩,λh=>absurd (show(7:Int)=10 from h) aQ⟩,rfl,λ_=>rfl,λ_=>rfl,λh=>(by cases h),λ_=>rfl,λx hx=>(by rw[ai hx];exact h),λx hx=>(by cases hx),λx hx=>(by cases hx)⟩
 ·exact⟨⟨⟨(show(1:Int)<=8 by decide),(show(8:Int)<=10 by decide)⟩,λh=>absurd (show(8:Int)=10 from h) aQ⟩,rfl,λ_=>rfl,λ_=>rfl,λh=>(by cases h),λ_=>rfl,λx hx=>(by rw[ai hx];exact h),λx hx=>(by cases hx),λx hx=>(by cases hx)⟩
theorem Yo:eH dX/\isName dX=true:=⟨N7 aQ,aQ⟩
theorem YP (b:List LS) (h:∀x∈b,mC 40 x):kR ⟨[],[⟨dX,[],[],b⟩]⟩:=
 ⟨λa ha=>(by cases ha),λf hf=>by
  rw[ai hf]
  exact⟨Yo,λx hx=>(by cases hx),λx hx=>(by cases hx),(show 0<=6 by decide),h⟩⟩
theorem Rt:kR Bf:=YP _ λx hx=>by
 rcases List.mem_cons.1 hx with rfl|hx
 ·exact Zf (.inr rfl) _ aiv _
 rw[ai hx]
 exact Zf (.inl rfl) _ (Rl 7 aQ _) _
theorem XW (b:List LS):ji ⟨[],[⟨dX,[],[],b⟩]⟩ dX=0:=by simp [ji,ny,List.findIdx_cons]
theorem afT {f:LF} (hp:f.params= []) (hl:f.locals= []):J9 f:=by
 intro B pa la pc lc;rw[hp,hl];exact concat_nil B pa la pc lc
theorem agD (b:List LS) (h:∀x∈b,mC 40 x) (hj:ot ⟨[],[⟨dX,[],[],b⟩]⟩ ⟨dX,[],[],b⟩=0) (hy:∀x∈b,YS ⟨[],[⟨dX,[],[],b⟩]⟩ x):Ic ⟨[],[⟨dX,[],[],b⟩]⟩:=by
 refine⟨YP b h,⟨?_,⟨0,XW b,(by show 0<1;decide),rfl⟩,λf hf=> ?_⟩,λf hf=> ?_,⟨⟨0,XW b,(by show 0<1;decide),rfl⟩,λf hf=> ?_⟩,aH,λf hf=> ?_⟩
 ·show nS [dX]=false;decide+kernel
 ·rw[ai hf];exact hj
 ·rw[ai hf];exact afT rfl rfl
 ·rw[ai hf];exact hy
 ·rw[ai hf];simp
theorem aiw (p:LP) (n:Int):XE p (A6 n):=⟨1,⟨⟨(show(1:Int)<=1 by decide),(show(1:Int)<=7 by decide)⟩,λh=>(absurd (show(1:Int)=3 from h) aQ),λh=>(absurd (show(1:Int)=4 from h) aQ),λh=>(absurd (show(1:Int)=6 from h) aQ),λh=>(absurd (show(1:Int)=5 from h) aQ)⟩,λx hx=>(by cases hx)⟩
theorem ajh (p:LP):XE p UG:=by
 refine⟨2,⟨⟨aQ,aQ⟩,λh=>(by cases h),λ_=>rfl,λh=>(by cases h),λh=>(by cases h)⟩,λx hx=> ?_⟩;rcases List.mem_cons.1 hx with rfl|hx
 ·exact⟨⟨⟨aQ,aQ⟩,λh=>(by cases h),λh=>(by cases h),λh=>(by cases h),λh=>(by cases h)⟩,aJ⟩
 rcases List.mem_cons.1 hx with rfl|hx
 ·exact⟨⟨⟨aQ,aQ⟩,λh=>(by cases h),λh=>(by cases h),λh=>(by cases h),λh=>(by cases h)⟩,aJ⟩
 ·cases hx
theorem Zy (p:LP) {k:Int} (hk:k=7\/k=8) (e:LE) (h:XE p e):YS p (.mk k [] [e] [] []):=
 ⟨1,⟨λ_=>rfl,λh2=>(by have h2:k=2:=h2;omega),λx hx=>(by rw[ai hx];exact h)⟩,λx hx=>(by cases hx),λx hx=>(by cases hx)⟩
theorem ah0:Ic Bf:=agD _ (λx hx=>Rt.funcs Pf (List.mem_singleton.2 rfl)|>.2.2.2.2 x hx) CN λx hx=>by
 rcases List.mem_cons.1 hx with rfl|hx
 ·exact Zy _ (.inr rfl) _ (ajh _)
 rw[ai hx]
 exact Zy _ (.inl rfl) _ (aiw _ 7)
theorem ah1:runM Bf 203 [1] 99=⟨1,7,[1],6⟩:=aL
theorem ah2:runM Bf 203 [0] 99=⟨2,0,[],4⟩:=aL
theorem ah3:runM Bf 203 [1] 2=⟨0,0,[],2⟩:=aL
end
section
open Go.RowKit Go.Shelf
attribute [local go_sem] Oper.semAt_some
theorem afX {B:Nat->Prop} (w:World) (v:Value) (l:List Int) (x:Int) (hv:aP B 1 RI w v l):
  Calls Tryz.prog 104 #[v,I x] w λe w'=>e= .returned (I (ny (λy=>decide (y=x)) l))/\w'=w:=by
 obtain⟨a0,c0,rfl,hlen, -⟩:=id hv;have HV:=aF hv;clear hv;go_enter Tryz.func104,Tryz.ntmps104;go_wp2;go_loopg [8] l.length (λgh i wr=>∃k:Nat,gh+k=l.length/\i=I k/\Hid (wr=w/\∀j,(hj:j<l.length)->j<k->l[j]≠x))
 case atStart=>exact⟨0,rfl,rfl,aF ⟨rfl,λj hj h=>absurd h aG⟩⟩
 case round=>
  obtain⟨k,hg,rfl,HH⟩:=hrel;obtain rfl:=HH.out.1;by_cases hlt:k<l.length
  ·have bT:(k:Int)<(l.length:Int):=aG;obtain⟨b,o,C,rfl,_,hC,hrx⟩:=HV.at hlt;have e0:=hC 0 aG;have yQ:C 0=I l[k]:=hrx;rw[yQ]at e0;simp only[aA,Nat.mul_one]at e0;have⟨y,hy⟩:=xq (l[k]);rw[<-hy]at e0;have HY:=aF hy;clear hC hrx yQ hy;by_cases hxy:x=y
   ·subst hxy;go_wp2;go_ret;refine⟨?_,rfl⟩;rw[BX hlt (λj hj=>by simp only[decide_eq_false_iff_not];exact HH.out.2 j aG hj) (by simp only[decide_eq_true_eq];exact HY.out.symm)]
    try rfl
   ·have rO:=aF hxy;go_wp2;go_roundg (l.length - (k+1))
    case measure=>omega
    case rel=>
     refine⟨k+1,aG,by go_num,aF ⟨rfl,λj hj hjk=> ?_⟩⟩;by_cases IQ:j<k
     ·exact HH.out.2 j hj IQ
     ·obtain rfl:j=k:=aG;rw[<-HY.out];exact λe=>rO.out e.symm
  ·have bT: ¬(k:Int)<(l.length:Int):=aG;go_wp2;go_ret;refine⟨?_,rfl⟩;rw[BU (λj hj=>by simp only[decide_eq_false_iff_not];exact HH.out.2 j hj aG)]
   try rfl
theorem aeZ {B:Nat->Prop} (w:World) (v:Value) (l:List Int) (x:Int) (hv:aP B 1 RI w v l):
  Calls Tryz.prog 61 #[v,I x] w λe w'=>e= .returned (.bool (decide (x∈l)))/\w'=w:=by
 have HI:=aF (afX w v l x hv);have⟨q,hq⟩:=xq (ny (λy=>decide (y=x)) l);rw[<-hq]at HI;have hz:decide (0<=q)=decide (x∈l):=by
  rw[hq,decide_eq_decide,Jw];simp
 obtain⟨a0,c0,rfl,hlen, -⟩:=hv;have HZ:=aF hz;clear hq hz;go_enter Tryz.func61,Tryz.ntmps61;go_wp2_with (go_at_call 104;refine HI.mono ?_;rintro e' w1⟨rfl,rfl⟩)
 go_ret;rw[<-HZ.out];exact⟨rfl,rfl⟩
def ap5 (d:Nat):Prop:=∀(e:LE) (av:Value) (W:World) (B:Nat->Prop),Oy d e->EX B W av e->
 CR 38 #[eV e av] W (.tuple #[I ((Ku d e).getD 0), .bool (Ku d e).isSome])
def Fg (x:Nat×Nat):List Value:= [.slice (some ⟨x.1,0,none⟩) x.2 x.2]
theorem NS (x:Nat×Nat):(Fg x).length=1:=rfl
theorem YQ (x:Nat×Nat):∀u∈Fg x,u.oneCell'=true:=by intro u hu;simp [Fg]at hu;subst hu;rfl
theorem aae:oZ 76 22 1 24:=oZ.mk' (z:= .slice none 0 0) Tryz.underlying76 aL rfl aQ
theorem XX {w:World} {ops:Array Oper} {rest:List Oper} {o:Oper} {a:Act} {Q:Exit->Act->World->Prop} (hgd:o.guard=none) (l c:Operand) (hop:o.op=Op.makeSlice 22 l c)
  (n:Nat) (hl:a.eval l=I n) (hc:a.eval c=I n) (hn:n<=1048576)
  (hK:wpList Tryz.prog ops Q rest (a.put o.dst (.slice (some (w,0)) n n)) (w.alloc (.cells (List.replicate n (I 0)).toArray 3))):wpList Tryz.prog ops Q (o::rest) a w:=by
 obtain⟨i,hi,hz,hs,hb⟩:=info_parts (show(Tryz.prog.info? 3).map (λi=>(i.zero,i.size,i.bytes))=some (some (.int .i64 0),1,8) by kernel_rfl);have hrun:=run_make (P:=Tryz.prog) w 22 3 i (.int .i64 0) Tryz.underlying22 hi hz .i64 .i64 n n aG (Int.le_refl _) (by rw[hb];omega) aG;have hm:madeCells (Value.cells (.int .i64 0)) ((n:Int).toNat*i.size)=(List.replicate n (I 0)).toArray:=by
  rw[hs,Int.toNat_natCast,Nat.mul_one];apply Array.toList_inj.1;show(madeCells #[.int .i64 0] n).toList=List.replicate n (I 0);exact toList_madeCells_one _ _
 rw[hm,Int.toNat_natCast]at hrun;refine wpList_plain hgd λK hK'=> ?_;unfold Oper.wp;simp [execOp,hop,hl,hc,hrun,Result.andThen];exact hK' _ _ hK
structure tO (p:LP) (rb k:Nat) (wr:World) (eW:Value) (gz:List (Nat×Nat)):Prop where
 own:a_ 1 22 Fg wr (rb+1) eW gz
 len:gz.map (·.2)=(p.arrays.take k).map λa=>a.size.toNat
 nodup:(gz.map (·.1)).Nodup
 row:∀x∈gz,rb<x.1/\eW.ownBlock≠some x.1/\Row wr x.1 3 (List.replicate x.2 (I 0))
section
variable {p:LP} {rb k:Nat} {wr w':World} {eW:Value} {gz:List (Nat×Nat)} {row:Option Nat}
theorem tO.nil (p:LP) (rb:Nat) (w:World):tO p rb 0 w (.slice none 0 0) []:=⟨a_.nil,rfl,List.nodup_nil,aJ⟩
theorem tO.kept (h:tO p rb k wr eW gz) (hg:wr.grownBy w' row) (hr:∀r,row=some r->r<=rb):tO p rb k w' eW gz:=by
 refine⟨j0 h.own hg ?_,h.len,h.nodup,λx hx=>⟨(h.row x hx).1,(h.row x hx).2.1,(h.row x hx).2.2.kept hg λe=> ?_⟩⟩
 ·cases hv:eW.ownBlock with
  |none=>exact .inl rfl
  |some g=>
   right;intro e;have:=hr g e.symm;have:=(cO h.own g hv).1;omega
 ·have:=hr _ e.symm;have:=(h.row x hx).1;omega
theorem tO.count (h:tO p rb k wr eW gz) (hk:k<=p.arrays.length):gz.length=k:=by
 have:=congrArg List.length h.len;simp only[aC,List.length_take]at this;omega
theorem tO.app {w6:World} {o:Obj} {n g':Nat} {v':Value} (h:tO p rb k wr eW gz) (hk:k<p.arrays.length) (hn:n=(p.arrays[k]).size.toNat) (cy:rb<wr.heap.size)
  (ho:a_ 1 22 Fg w6 (rb+1) v' (gz++ [(wr.heap.size,n)])) (hg:((wr.alloc (.cells (List.replicate n (I 0)).toArray 3)).alloc o).grownBy w6 eW.ownBlock) (hv:v'.ownBlock=some g')
  (hat:eW.ownBlock=some g'\/g'=((wr.alloc (.cells (List.replicate n (I 0)).toArray 3)).alloc o).heap.size):tO p rb (k+1) w6 v' (gz++ [(wr.heap.size,n)]):=by
 have hz:((wr.alloc (.cells (List.replicate n (I 0)).toArray 3)).alloc o).heap.size=wr.heap.size+2:=aH;rw[hz]at hat;have hlt:∀x∈gz,x.1<wr.heap.size:=λx hx=>(h.row x hx).2.2.lt;have gM:∀r,eW.ownBlock=some r->r<wr.heap.size:=λr e=>(cO h.own r e).2;refine⟨ho, ?_, ?_,λx hx=> ?_⟩
 ·rw[List.map_append,h.len,List.take_succ_eq_append_getElem hk,List.map_append,hn];rfl
 ·rw[List.map_append,List.nodup_append];refine⟨h.nodup,aH,λa ha b hb=> ?_⟩;obtain⟨x,hx,rfl⟩:=List.mem_map.1 ha;have:=hlt x hx;simp at hb;omega
 ·rcases List.mem_append.1 hx with hx|hx
  ·obtain⟨h1,h2,h3⟩:=h.row x hx;refine⟨h1, ?_,((h3.kept iD aH).kept (cE _ o none) aH).kept hg (λe=>h2 e.symm)⟩;rw[hv];intro e;have e:=Option.some.inj e;have:=hlt x hx;rcases hat with h4|h4
   ·exact h2 (by rw[h4,e])
   ·omega
  ·obtain rfl:=ai hx;refine⟨cy, ?_,(Row.kept (dV _ o (cj wr _)) hg λe=> ?_)⟩
   ·rw[hv];intro e;have e:g'=wr.heap.size:=Option.some.inj e;rcases hat with h4|h4
    ·have:=gM g' h4;omega
    ·omega
   ·have:wr.heap.size<wr.heap.size:=gM wr e.symm;omega
end
def DR (W:World) (rb:Nat) (uo F6:List Value) (w:World):Prop:=
 Below W.heap.size W w/\Row w W.heap.size 27 uo/\Row w (W.heap.size+1) 37 [I 0,I 0, .slice none 0 0,I 0]/\Row w rb 78 F6/\W.heap.size+1<rb
theorem DR.kept {W w w':World} {rb:Nat} {uo F6:List Value} {row:Option Nat} (h:DR W rb uo F6 w) (hg:w.grownBy w' row) (hr:∀r,row=some r->rb<r):DR W rb uo F6 w':=by
 obtain⟨h1,h2,h3,h4,h5⟩:=h;exact⟨h1.grown hg h1.size (λr e=>by have:=hr r e;omega),h2.kept hg (λe=>by have:=hr _ e.symm;omega),h3.kept hg (λe=>by have:=hr _ e.symm;omega),h4.kept hg (λe=>by have:=hr _ e.symm;omega),h5⟩
theorem DR.set {W w:World} {rb:Nat} {uo F6:List Value} (h:DR W rb uo F6 w) (j:Nat) (v:Value):DR W rb uo (F6.set j v) (w.setCell (rb,j) v):=by
 obtain⟨h1,h2,h3,h4,h5⟩:=h;have hg:w.grownBy (w.setCell (rb,j) v) (some rb):=bO _ _ _ _;exact⟨h1.grown hg h1.size bh,h2.kept hg nX,h3.kept hg nX,h4.set j v,h5⟩
theorem ah4 (p:LP) (hr:Ic p) (hap:sP p) (av fv iv:Value) (inp:List Int) (most:Int) (W:World) (hx:PX (·<W.heap.size) W av fv p) (hi:jl (·<W.heap.size) W iv inp) (hm:most<=1000000) (K:Nat) (hK:2*most.toNat+1<=K):
  Calls Tryz.prog 17 #[.agg #[av,fv],iv,I most] W λe w'=>∃ov,e= .returned (.agg #[I (runM p K inp most).status,I (runM p K inp most).code,ov,I (runM p K inp most).steps])/\bZ w' 0 ov (runM p K inp most).out/\Below W W w':=by
 obtain⟨Q,hQ⟩:∃Q:Ending->World->Prop,Q=λe w'=>∃ov,e= .returned (.agg #[I (runM p K inp most).status,I (runM p K inp most).code,ov,I (runM p K inp most).steps])/\bZ w' 0 ov (runM p K inp most).out/\Below W W w':=⟨_,rfl⟩
 suffices kN:Calls Tryz.prog 17 #[.agg #[av,fv],iv,I most] W (λe w'=>Hid (Q e w'))from kN.mono λe w' h=>by have:=h.out;rwa[hQ]at this
 have HQ:=aF hQ;obtain⟨aa,ac,fa,fc,rfl,rfl⟩:=hx.slice;have⟨fn,hfn⟩:=xq p.funcs.length;have⟨AN,iV⟩:=xq p.arrays.length;rw[<-iV,<-hfn]at hx|-;have aaf:AN<=1000000000:=by have:=hr.few;omega
 obtain⟨ia,ik,rK,hil⟩:=hi.room;have HI:=aF hi;have HX:=aF hx;have cP:=aF hr;have mD:=aF iV;have HK:=aF hK;have HM:=aF hm;have Ph:=aF rK;have⟨il,Fh⟩:=xq inp.length;rw[<-Fh]at rK;subst rK;have HIL:=aF Fh;have yb:=aF (λ(w:World) (hb:Below W W w)=>Yp (·<W.heap.size) p _ _ w (hx.below hb) (λW av fv h=>QY p hap hr.UH av fv W _ h) hr.UH hr.okn hr.cat hr.few hr.aj4);clear hQ hx hi hr hK hm hil Fh hfn iV;obtain⟨w0,hw0⟩:∃w0,w0=(W.alloc (.cells #[.slice aa AN ac, .slice fa fn fc] 27)).alloc (.cells wK 37):=⟨_,rfl⟩;have dO:=hw0.symm;have bg:=aF (show Below W W w0 by rw[hw0];exact nR _ _ _);have hp0:Row w0 W 27 [.slice aa AN ac, .slice fa fn fc]:=by rw[hw0];exact dV _ _ hn0
 have zx:=aF (show Row w0 (W,1) 37 [I 0,I 0, .slice none 0 0,I 0] by rw[hw0];exact jF aH);have p0:=hp0.k0;have p1:=hp0.k1;have gT:=aF hp0;clear hw0 hp0;go_enter Tryz.func17,Tryz.ntmps17;go_upto_region 2 with(go_at_call 31;refine aN (yb _ bg) λw1 uf=> ?_;have aI:=aU bg uf)
 have⟨w2,hw2⟩:=xq (w1.alloc (.cells #[.int .i64 0, .int .i64 0] 72));have aM:=aF (show Below W W w2 by rw[hw2];exact aI.alloc aI.size _);have hp2:Row w2 W 27 [.slice aa AN ac, .slice fa fn fc]:=by rw[hw2];exact dV _ _ (gT.ext uf.out)
 have cu:=aF (show Row w2 (W,1) 37 [I 0,I 0, .slice none 0 0,I 0] by rw[hw2];exact dV _ _ (zx.ext uf.out));rw[<-hw2];have q0:=hp2.k0;have q1:=hp2.k1;have eX:=aF hp2;clear hw2 hp2 p0 p1;go_upto_region 5 with(fail)
 have⟨w3,hw3⟩:=xq (w2.alloc (.cells #[.slice aa AN ac, .slice fa fn fc, .slice ia il ik, .slice none 0 0,I 0,I most,I 0,I 0, .slice none 0 0,I 0] 78));have⟨rb,cy⟩:=xq w2.heap.size;have hrl:W.heap.size+1<rb:=by rw[cy];exact cu.lt
 have hk3:DR W rb [.slice aa AN ac, .slice fa fn fc] [.slice aa AN ac, .slice fa fn fc, .slice ia il ik, .slice none 0 0,I 0,I most,I 0,I 0, .slice none 0 0,I 0] w3:=by
  rw[hw3,cy];exact⟨aM.alloc aM.size _,dV _ _ eX.out,dV _ _ cu.out,cj _ _,cy▸hrl⟩
 rw[<-hw3,<-cy];have s0:=hk3.2.1.cell 0;simp only[af]at s0;have gy:=aF hk3;clear hw3 cy hk3 q0 q1 bg gT zx aI uf aM eX cu;go_upto_region 6 with(fail)
 clear s0;go_loopg [28] AN (λgh i wr=>∃k:Nat,gh+k=AN/\i=I k/\Hid (∃(gz:List (Nat×Nat)) (eW:Value),tO p rb k wr eW gz/\DR W rb [.slice aa AN ac, .slice fa fn fc] [.slice aa AN ac, .slice fa fn fc, .slice ia il ik,eW,I 0,I most,I 0,I 0, .slice none 0 0,I 0] wr))
 case atStart=>exact⟨0,aG,rfl,aF ⟨[],_,tO.nil _ _ _,gy⟩⟩
 case round=>
  obtain⟨k,hg,rfl,HH⟩:=hrel;obtain⟨wo,rfl⟩:=xq wr;obtain⟨gz,eW,hai,Mb⟩:=HH.out;have mS:=aF hai;have zy:=aF Mb;clear HH hai Mb;by_cases hlt:k<AN
  ·have bT:(k:Int)<(AN:Int):=aG;have F7:k<p.arrays.length:=by rw[<-mD.out];exact hlt
   obtain⟨b,o,C,rfl,_,hC,hrx⟩:=(HX.below zy.1).arrays.at F7;have e0:=hC 0 aG;have e1:=hC 1 aG;rw[hrx.1]at e0;rw[hrx.2]at e1;simp only[aA]at e0;have hsz:=((cP.UH.arrays p.arrays[k] (ak F7)).2);obtain⟨nm,cJ⟩:∃x,x=(p.arrays[k]).name:=⟨_,rfl⟩;obtain⟨n,hn⟩:∃x,x=(p.arrays[k]).size.toNat:=⟨_,rfl⟩;have hnz:(p.arrays[k]).size=(n:Int):=by rw[hn];omega
   rw[<-cJ]at e0;rw[hnz]at e1 hsz;have CP:n<=1048576:=aG;have HN:=aF hn;have CQ:=aF F7;clear hC hrx cJ hn hnz hsz;go_upto_region 8 with(fail)
   have⟨ab,hab⟩:=xq wo.heap.size;have⟨wa,iq⟩:=xq (wo.alloc (.cells #[S nm,I n] 68));have o6:Row wa ab 68 [S nm,I n]:=by rw[iq,hab];exact cj _ _
   have hka:=zy.kept (w':=wa) (row:=none) (by rw[iq];exact cE _ _ none) aJ;have haa:=mS.kept (w':=wa) (row:=none) (by rw[iq];exact cE _ _ none) aJ;have mE:Hid (eW.ownBlock≠some ab):=λe=>by have:=(cO mS.own _ e).2;omega
   rw[<-iq,<-hab];have gJ:=aF o6;have UI:=aF hka;have HAA:=aF haa;clear e0 e1 iq hab o6 hka haa mS zy;refine G5 aL (λX=>X.cell? (rb,3)=some eW/\X.cell? (ab,1)=some (I n))
    [(0,0),(0,1),(0,2),(0,3),(0,4),(0,5),(0,6),(1,7),(1,8),(1,9),(0,10),(0,11),(2,12)] aL ?hS ?_
   case hS=>intro wd hh;exact⟨aO UI.2.2.2.1 hh 3,aO gJ.out hh 1⟩
   intro wd hh hgd hS;have dz:=bI gJ hgd;have ye:=aF (UI.kept hgd aJ);have HAD:=aF (HAA.kept hgd aJ);clear hh hgd gJ UI HAA;refine nE ?_;go_wp2_with (at_make;refine XX rfl _ _ rfl n rfl rfl CP ?_)
   have⟨wm,Fi⟩:=xq (wd.alloc (.cells (Array.replicate n (I 0)) 3));have CS:wm=wd.alloc (.cells (List.replicate n (I 0)).toArray 3):=by rw[Fi,List.toArray_replicate]
   have Bi:wd.grownBy wm none:=by rw[CS];exact cE _ _ none
   have HRM:=bI dz Bi;have p7:=aF (ye.kept Bi aJ);have F8:=aF CS;rw[<-Fi];clear CS Fi Bi hS;refine bw ⟨p7.2.2.2.1.cell 3,HRM.cell 1⟩ λhS=> ?_;refine h_ ?_;go_wp2;have⟨wb,hwb⟩:=xq (wm.alloc (.cells #[.slice (some (wd,0)) n n] 22));have hgb:wm.grownBy wb none:=by rw[hwb];exact cE _ _ none
   have bF:=bI HRM hgb;have Ee:=aF (p7.kept hgb aJ);have sW:=aF (dZ hwb);have Bj:=aF ((HAD.kept (w':=wm) (row:=none) (by rw[F8.out];exact cE _ _ none) aJ).kept hgb aJ);have Mc:=aF hwb;have Sd:rb+1<=wb.heap.size:=Ee.2.2.2.1.lt;have hgl:gz.length<=1000000000:=by rw[Bj.count (cw CQ)];omega
   rw[<-hwb];clear hwb hgb hS;refine bw ⟨Ee.2.2.2.1.cell 3,bF.cell 1⟩ λhS=> ?_;refine h_ ?_;go_wp2_with (at_builtin;refine lX aae rfl _ _ rfl NS YQ (rb+1) eW gz rfl Bj.own wm.heap.size (wd.heap.size,n) rfl (λj hj=>(cell_of_block sW.out j).trans (by simp [Fg])) hgl aQ Sd ?_;intro g' cap w6 dY bG fy lZ;have gK:=aF dY;have di:=aF bG;have gN:=aF fy;clear dY bG fy lZ)
   have Ie:∀r,eW.ownBlock=some r->rb<r:=λr e=>(cO Bj.own r e).1;have ir:=aF (Ee.kept di Ie);have dJ:=aF (bF.kept di (λe=>mE.out e.symm));clear hS Ie;refine bw ⟨ir.2.2.2.1.cell 3,dJ.cell 1⟩ λhS=> ?_;refine wV ?_;clear hS;have f3:=ir.2.2.2.1.frozen 3;have c3:=ir.2.2.2.1.k3;refine nu ?_;go_wp2;refine iG (kK ?_);have apc:gz.length=k:=Bj.count (cw CQ);have h6:=tO.app (o:= .cells #[.slice (some (wd,0)) n n] 22) HAD CQ HN (by have:=ye.2.2.2.1.lt;exact this) gK (by rw[<-F8.out,<-Mc.out];exact di.out) rfl (by rw[<-F8.out,<-Mc.out];exact gN.out);have⟨w7,cT⟩:=xq (w6.setCell (rb,3) (.slice (some (g',0)) (gz.length+1) cap));have H7:=aF (h6.kept (w':=w7) (row:=some rb) (by rw[cT];exact bO _ _ _ _) u_);have kC:=ir.set 3 (.slice (some (g',0)) (gz.length+1) cap);rw[<-cT]at kC|-;have nI:=aF kC;clear cT kC h6 f3 c3;go_wp2;go_roundg (AN - (k+1))
   case measure=>omega
   case rel=>exact⟨k+1,aG,by go_num,aF ⟨_,_,H7,nI⟩⟩
  ·have bT: ¬(k:Int)<(AN:Int):=aG;have hkn:k=AN:=aG;subst hkn;obtain⟨F,hF⟩:∃F:Nat->Prop,F=λb=>b<wo.heap.size/\b≠rb/\∀x∈gz,x.1≠b:=⟨_,rfl⟩;obtain⟨hbl,mU,hs3,hr3,Sg⟩:=zy.out;have CT:∀b,b<W.heap.size->F b:=λb hb=>by
    rw[hF];have:=hbl.size;exact⟨aG,aG,λx hx=>by have:=(mS.row x hx).1;omega⟩
   have Ce:gz.length=p.arrays.length:=by rw[mS.count (by rw[mD.out];exact ay _)];exact mD.out
   let c:cH:=⟨F,p, .slice aa k ac, .slice fa fn fc,eW,gz,most,rb⟩;have her:ER c F wo 0 (st0 p inp):=by
    refine⟨⟨λb hb=>by rw[hF]at hb;exact hb.1,λb hb=>hb,by show¬F rb;rw[hF];exact λh=>h.2.1 rfl,(HX.below hbl).weak CT, ?_,mS.nodup,λx hx=>⟨?_, ?_⟩, ?_,Ce,λi x l hx hl=> ?_⟩,⟨aH,aH,aG,HM⟩, .slice ia il ik, .slice none 0 0,hr3,⟨?_,HI.room⟩,bZ.nil _ _,λg hg=>(by cases hg)⟩
    ·
     show aP F 1 UJ wo eW gz;rcases mS.own.2 with⟨hv,h0⟩|⟨g,cap,cur,hv,hbg,hgr,hrest⟩
     ·have hn0:gz= []:=List.length_eq_zero_iff.1 h0;rw[hv,hn0];exact aP.nil _ _ _ _
     ·refine⟨some (g,0),cap,hv,by rw[Ce];have:=cP.few;omega, .inr ⟨g,0,rfl, ?_,λi x hx=>⟨λ_=> .slice (some ⟨x.1,0,none⟩) x.2 x.2,λj hj=> ?_,rfl⟩⟩⟩
      ·rw[hF];exact⟨(aD hgr).1,aG,λx hx e=>(mS.row x hx).2.1 (by rw[hv,e];rfl)⟩
      ·obtain⟨hi,uq⟩:=aj hx;obtain⟨g2,c2,hv2,_,hcell⟩:=mS.own.cell NS hi;have hgg:g2=g:=by rw[hv]at hv2;simp at hv2;exact hv2.1.symm
       obtain rfl:j=0:=aG;have:=(hcell 0 aQ).1;rw[hgg,uq]at this;rw[Nat.zero_add,this];rfl
    ·have:=(mS.row x hx).1;show x.1≠rb;omega
    ·rw[hF];exact λh=>h.2.2 x hx rfl
    ·show(p.arrays.map λa=>List.replicate a.size.toNat (0:Int)).length=gz.length;rw[aC,Ce]
    ·have hx:gz[i]? =some x:=hx;have hl:(p.arrays.map λa=>List.replicate a.size.toNat (0:Int))[i]? =some l:=hl;obtain⟨hi,uq⟩:=aj hx;have h3:=(mS.row x (by rw[<-uq];exact ak hi)).2.2;have h2:=congrArg (λl=>l[i]?) mS.len;simp only[List.getElem?_map,hx,mD.out,List.take_length,Option.map_some]at h2;rw[List.getElem?_map]at hl;cases hp:p.arrays[i]? with
     |none=>rw[hp]at hl;cases hl
     |some a=>
      rw[hp]at hl h2;obtain rfl:List.replicate a.size.toNat (0:Int)=l:=by simpa using hl
      obtain h2:x.2=a.size.toNat:=by simpa using h2
      rw[List.map_replicate,List.length_replicate,<-h2];exact⟨h3,rfl⟩
    ·exact(HI.sl.grown (bX hbl none) aJ i20).weak CT i20
   have hmain:=ahg c cP.xp K _ wo (st0 p inp) her (by show 2*(most - ((0:Nat):Int)).toNat+1<=K;have:=HK.out;omega);have HMA:=aF (show Calls Tryz.prog 32 #[.pointer (some (rb,0))] wo _ from hmain);have Md:F (W,1):=by rw[hF];exact⟨hs3.lt,aG,λx hx=>by have:=(mS.row x hx).1;omega⟩
   have Me:=aF Md;have Mf:=aF CT;have aW:=aF hbl;have fO:=aF mU;have gB:=aF hs3;have hrn:rb≠W.heap.size+1:=aG;clear hbl mU hs3 hr3 her hmain Md CT hF Ce Sg;go_upto_region 11 with(go_at_call 32;refine HMA.mono ?_;rintro e' w4⟨rfl,hk4,iv4,ov4,d4,hr4,gU⟩;have bR:=aF hk4;have bU:=aF hr4;have mH:=aF gU;clear hk4 hr4 gU)
   have hs4:=bR.row gB Me;have hrun:runM p K inp most=qF (lM p (cz p most K).stmt 0 dX [] (st0 p inp)):=JX p K inp most;have hr4:=bU.out;have gU:=mH.out;change Row w4 rb 78 [.slice aa k ac, .slice fa fn fc,iv4,eW,I d4,I most,I (qF (lM p (cz p most K).stmt 0 dX [] (st0 p inp))).status,I (qF (lM p (cz p most K).stmt 0 dX [] (st0 p inp))).code,ov4,I (qF (lM p (cz p most K).stmt 0 dX [] (st0 p inp))).steps]at hr4;change bZ w4 0 ov4 (qF (lM p (cz p most K).stmt 0 dX [] (st0 p inp))).out at gU;rw[<-hrun]at hr4 gU;obtain⟨oa,oc,rfl⟩:=gU.slice;have⟨L,hL⟩:=xq (runM p K inp most);rw[<-hL]at hr4 gU HQ;have⟨ol,hol⟩:=xq L.out.length;have UK:=aF hol;rw[<-hol]at hr4 gU;have k6:=hr4.k6;have k7:=hr4.k7;have k8:=hr4.k8;have k9:=hr4.k9;have⟨w5,bQ⟩:=xq (w4.setRow (W,1) #[I L.status,I L.code, .slice oa ol oc,I L.steps]);have aag:=bQ.symm;have cD:w4.grownBy w5 (some (W,1)):=by rw[bQ];exact bJ
   have hs5:Row w5 (W,1) 37 [I L.status,I L.code, .slice oa ol oc,I L.steps]:=by rw[bQ];exact setRow_heap _ _ _ _ _ _ hs4
   have fT:=bZ.tag gU cD (ld.box 3 hs4 aQ);have bz:Below W W w5:=by
    refine⟨(cD.os.trans bR.os).trans aW.os,(cD.tape.trans bR.tape).trans aW.tape,(cD.output.trans bR.output).trans aW.output,az (az aW.size bR.size) cD.size,λb hb=> ?_⟩;have h1:=aW.size;have h2:=bR.size;exact((cD.block b aG ct).trans (bR.block b (Mf.out b hb))).trans (aW.block b hb)
   have o7:=aF hs4;have ur:=aF hs5;have dQ:=aF fT;have bW:=aF bz;clear hs4 hrun hr4 gU hL hol bQ cD hs5 fT bz;go_wp2_with (refine sr 37 (.tmp 6) (.tmp 50) (W.heap.size+1) wK o7.out ?_;rw[aag])
   refine bodyPost_ret (Xt rfl ur.out) rfl ?_;rw[HQ.out];exact aF ⟨_,rfl,dQ,bW⟩
end
end Go.Proofs.YtjgbkdbkachciaaGreatDoor
