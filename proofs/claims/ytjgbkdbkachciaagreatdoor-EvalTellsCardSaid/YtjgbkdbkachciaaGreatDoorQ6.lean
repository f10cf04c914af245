import Derived.Test.YtjgbkdbkachciaaGreatDoorB5
set_option linter.all false
namespace Go.Proofs.YtjgbkdbkachciaaGreatDoor
set_option maxRecDepth 100000
set_option maxHeartbeats 16000000
section
open Go.RowKit Go.Shelf
attribute [local go_sem] Oper.semAt_some
theorem EO (b:Nat) (hb:b<256) (w:World):Calls Tryz.prog 134 #[.int .u8 (b:Int)] w λe w'=>e= .returned (.bool (oM b))/\w'=w:=by
 go_enter Tryz.func134,Tryz.ntmps134;go_wp2
 all_goals
  go_ret;refine⟨congrArg (λb=>Ending.returned (Value.bool b)) ?_,rfl⟩;rw[Bool.eq_iff_iff];simp [oM]
  try omega
theorem Xk (b:Nat) (hb:b<256) (w:World):Calls Tryz.prog 135 #[.int .u8 (b:Int)] w λe w'=>e= .returned (.bool (mO b))/\w'=w:=by
 go_enter Tryz.func135,Tryz.ntmps135;go_wp2
 all_goals
  go_ret;refine⟨congrArg (λb=>Ending.returned (Value.bool b)) ?_,rfl⟩;rw[Bool.eq_iff_iff];simp [mO]
  try omega
abbrev RG:aK:= [32,105,110,116,32,105,102,32,101,108,115,101,32,119,104,105,108,101,32,98,114,101,97,107,32,99,111,110,116,105,110,117,101,32,114,101,116,117,114,110,32,112,114,105,110,116,32,114,101,97,100,32,116,114,97,112,32]
def uW (i n:Nat):aK:=(RG.drop i).take n
def JS (l:aK):Bool:=l.all λb=>oM b.toNat
theorem aff (s:aK) (h:isWord s=true):JS s=true:=by
 unfold isWord at h;have:s∈E_:=by simpa using h
 have hall:E_.all JS=true:=aQ;exact List.all_eq_true.1 hall s this
theorem afz:E_.all (λs=>(List.range 57).any λi=>decide (i+s.length+2<=57)&&(uW i (s.length+2)==32::(s++ [32])))=true:=CN
theorem aga (s:aK) (h:isWord s=true):∃i,i+s.length+2<=57/\uW i (s.length+2)=32::(s++ [32]):=by
 have:s∈E_:=by unfold isWord at h;simpa using h
 have h1:=List.all_eq_true.1 afz s this;obtain⟨i, -,hi⟩:=List.any_eq_true.1 h1;simp only[Bool.and_eq_true,decide_eq_true_eq,beq_iff_eq]at hi;exact⟨i,hi.1,hi.2⟩
theorem afA:((List.range 58).all λi=>(List.range 58).all λn=> !(decide (1<=n)&&decide (i+n+2<=57))|| !(JS (uW (i+1) n))|| !(decide ((uW i (n+2)).head? =some 32)&&decide ((uW i (n+2)).getLast? =some 32))||isWord (uW (i+1) n))=true:=CN
theorem agb (s:aK) (i:Nat) (h1:s≠ []) (h2:JS s=true) (h3:i+s.length+2<=57) (h4:uW i (s.length+2)=32::(s++ [32])):isWord s=true:=by
 have hn:1<=s.length:=List.length_pos_iff.2 h1;have hs:uW (i+1) s.length=s:=by
  have h5:(uW i (s.length+2)).tail.take s.length=s:=by rw[h4];simp
  rw[<-h5];unfold uW;apply List.ext_getElem?;intro n;simp only[List.getElem?_take,List.getElem?_tail,List.getElem?_drop];have h7:(List.take s.length (List.take (s.length+2) (List.drop i RG)).tail).length=s.length:=by
   have h8:=congrArg List.length h5;exact h8
  by_cases hh:n<s.length
  ·simp [h7,hh,show n+1<s.length+2 by omega,Nat.add_assoc,Nat.add_comm 1]
  ·simp [h7,hh]
 have h6:=List.all_eq_true.1 (List.all_eq_true.1 afA i ct) s.length ct;rw[hs,h2,h4]at h6;have hl:(32::(s++ [32]):aK).getLast? =some 32:=by rw[<-List.cons_append,List.getLast?_append];rfl
 rw[hl]at h6;simpa [hn,h3]using h6
theorem afB (l:aK) (ha:eH l) (hl:l.length<=1000000) (w:World):Calls Tryz.prog 136 #[S l] w λe w'=>e= .returned (.bool (isWord l))/\w'=w:=by
 have⟨Q,hQ⟩:=xq (isWord l);rw[<-hQ];have HQ:=aF hQ;have HA:=aF ha;clear ha hQ;go_enter Tryz.func136,Tryz.ntmps136;go_wp2;go_loopg [3] l.length (λgh v wr=>∃pos:Nat,gh+pos=l.length/\v=I pos/\wr=w/\Hid (∀(j:Nat) (b:UInt8),j<pos->l[j]? =some b->oM b.toNat=true))
 case atStart=>exact⟨0,rfl,rfl,rfl,aF (λj b hj=>absurd hj aG)⟩
 case round=>
  obtain⟨pos,hg,rfl,hwr,HB⟩:=hrel;obtain rfl:=hwr.symm;by_cases hlt:pos<l.length
  ·have bT:(pos:Int)<(l.length:Int):=aG;have hsz:pos<(⟨l.toArray⟩:ByteArray).size:=hlt;have⟨b,hb⟩:=xq (l[pos]);have hbb:((⟨l.toArray⟩:ByteArray)[pos]'hsz)=b:=by rw[hb];rfl
   have iL:=aF (show l[pos]? =some b by rw[hb];exact ah hlt);have xN:b.toNat<256:=b.toNat_lt;clear hb;cases hlet:oM b.toNat
   ·have HL:=aF hlet;have hend:Q=false:=by
     rw[HQ.out];cases hw:isWord l with
     |false=>rfl
     |true=>
      have:=List.all_eq_true.1 (aff l hw) b (List.mem_of_getElem? iL);rw[hlet]at this;cases this
    clear hlet;subst hend;go_wp2_with (go_at_call 134;refine(EO b.toNat xN _).mono ?_;rintro e w1⟨rfl,rfl⟩;rw[HL.out])
    go_ret;exact⟨rfl,rfl⟩
   ·have HL:=aF hlet;clear hlet;go_wp2_with (go_at_call 134;refine(EO b.toNat xN _).mono ?_;rintro e w1⟨rfl,rfl⟩;rw[HL.out])
    go_roundg (l.length - (pos+1))
    case measure=>omega
    case rel=>exact⟨pos+1,aG,by go_num,rfl,aF (λj c hj hc=>by
     by_cases e:j=pos
     ·subst e;rw[iL.out]at hc;obtain rfl:=Option.some.inj hc;exact HL.out
     ·exact HB.out j c aG hc)⟩
  ·have bT: ¬(pos:Int)<(l.length:Int):=aG;have gD:=aF (show JS l=true from List.all_eq_true.2 λb hb=>by
    obtain⟨j,hj⟩:=List.getElem?_of_mem hb;exact HB.out j b (iZ ((aj hj).1)) hj)
   clear HB;go_upto_region 7 with(fail)
   go_loopg [4] 57 (λgh v wr=>∃i:Nat,gh+i=57/\v=I i/\wr=w/\Hid (∀j,j<i->j+l.length+2<=57->uW j (l.length+2)≠32::(l++ [32])))
   case atStart=>exact⟨0,rfl,rfl,rfl,aF (λj hj=>absurd hj aG)⟩
   case round=>
    obtain⟨i,hg2,rfl,hwr,HI⟩:=hrel;obtain rfl:=hwr.symm;by_cases hnil:l= []
    ·have hend:Q=false:=by rw[HQ.out,hnil];rfl
     subst hend;subst hnil;go_wp2;go_ret;exact⟨rfl,rfl⟩
    ·have hnb:(l== [])=false:=bu hnil;have akO:(l != [])=true:=by rw[bne,hnb];rfl
     have akP:=aF hnil;clear hnil;by_cases hle:i+l.length+2<=57
     ·have akQ:(i:Int)+(l.length:Int)+2<=57:=aG;have hx:(⟨RG.toArray⟩:ByteArray).extract i (i+l.length+2)=⟨(uW i (l.length+2)).toArray⟩:=by
       rw[Lib.extract_eq];unfold uW
       congr 2
       simp
       congr 1
       omega
      have⟨c,hc⟩:=xq (32::(l++ [32]));have⟨d,hd⟩:=xq (uW i (l.length+2));have apw:(({data:= #[32]}:ByteArray)++{data:=List.toArray l}++{data:= #[32]})=⟨c.toArray⟩:=by rw[hc];apply ByteArray.ext;simp
      rw[<-hd]at hx;have HC:=aF hc;have HD:=aF hd;clear hc hd;by_cases heq:d=c
      ·have hend:Q=true:=by
        rw[HQ.out];exact agb l i akP gD hle (by rw[<-HD.out,heq,HC.out])
       subst hend;subst heq;go_wp2;go_ret;exact⟨rfl,rfl⟩
      ·have hdc:(d==c)=false:=bu heq;have tR:=aF heq;clear heq;go_wp2;go_roundg (57 - (i+1))
       case measure=>omega
       case rel=>exact⟨i+1,aG,by go_num,rfl,aF (λj hj hjl=>by
        by_cases e:j=i
        ·subst e;intro h;exact tR (by rw[HD.out,HC.out];exact h)
        ·exact HI.out j aG hjl)⟩
     ·have akQ: ¬(i:Int)+(l.length:Int)+2<=57:=aG;have hend:Q=false:=by
       rw[HQ.out];cases hw:isWord l with
       |false=>rfl
       |true=>
        obtain⟨j,Gn,IQ⟩:=aga l hw;exact absurd IQ (HI.out j aG Gn)
      subst hend;go_wp2;go_ret;exact⟨rfl,rfl⟩
theorem JE (l:aK) (ha:eH l) (hlm:l.length<=1000000) (w:World):Calls Tryz.prog 93 #[S l] w λe w'=>e= .returned (.bool (isName l))/\w'=w:=by
 have⟨Q,hQ⟩:=xq (isName l);rw[<-hQ];have HQ:=aF hQ;by_cases h0:l= []
 ·subst h0;have hend:Q=false:=by rw[hQ];rfl
  subst hend;clear hQ ha hlm;go_enter Tryz.func93,Tryz.ntmps93;go_wp2;go_ret;exact⟨rfl,rfl⟩
 have hl0:0<l.length:=List.length_pos_iff.2 h0;have nY: ¬(l.length:Int)<1:=aG
 by_cases h20:l.length<=20
 case neg=>
  have PK:20<(l.length:Int):=aG;have hend:Q=false:=by
   rw[hQ];cases hn:isName l with
   |false=>rfl
   |true=>exact absurd ((Hf l).1 hn).2.1 h20
  subst hend;clear hQ ha hlm h0 h20;go_enter Tryz.func93,Tryz.ntmps93;go_wp2;go_ret;exact⟨rfl,rfl⟩
 have PK: ¬20<(l.length:Int):=aG;have HA:=aF ha;have H0:=aF h0;have H20:=aF h20;have II:0<(⟨l.toArray⟩:ByteArray).size:=hl0;have⟨b0,hb0⟩:=xq (l[0]);have al6:((⟨l.toArray⟩:ByteArray)[0]'II)=b0:=by rw[hb0];rfl
 have ach:=aF (show l[0]? =some b0 by rw[hb0];exact ah hl0);have xN:b0.toNat<256:=b0.toNat_lt;have HWD:=aF (λW=>afB l ha hlm W);clear hQ ha h0 h20 hb0 hlm;cases Kj:oM b0.toNat
 ·have yE:=aF Kj;have hend:Q=false:=by rw[HQ.out];exact NQ ach (by unfold sM;rw[Kj];rfl)
  subst hend;clear Kj;go_enter Tryz.func93,Tryz.ntmps93;go_wp2_with (go_at_call 134;refine(EO b0.toNat xN _).mono ?_;rintro e w1⟨rfl,rfl⟩;rw[yE.out])
  go_ret;exact⟨rfl,rfl⟩
 have yE:=aF Kj;clear Kj;go_enter Tryz.func93,Tryz.ntmps93;go_upto_region 4 with(go_at_call 134;refine(EO b0.toNat xN _).mono ?_;rintro e w1⟨rfl,rfl⟩;rw[yE.out])
 clear al6 xN;go_loopg [3] l.length (λgh v wr=>∃pos:Nat,gh+pos=l.length/\v=I pos/\wr=w1/\Hid (∀(j:Nat) (b:UInt8),j<pos->l[j]? =some b->mQ b.toNat=true))
 case atStart=>exact⟨0,rfl,rfl,rfl,aF (λj b hj=>absurd hj aG)⟩
 case round=>
  obtain⟨pos,hg,rfl,hwr,HB⟩:=hrel;obtain rfl:=hwr.symm;by_cases hlt:pos<l.length
  ·have bT:(pos:Int)<(l.length:Int):=aG;have hsz:pos<(⟨l.toArray⟩:ByteArray).size:=hlt;have⟨b,hb⟩:=xq (l[pos]);have hbb:((⟨l.toArray⟩:ByteArray)[pos]'hsz)=b:=by rw[hb];rfl
   have iL:=aF (show l[pos]? =some b by rw[hb];exact ah hlt);have xN:b.toNat<256:=b.toNat_lt;clear hb;have qQ:=aF (show mQ b.toNat=true->∀(j:Nat) (c:UInt8),j<pos+1->l[j]? =some c->mQ c.toNat=true from λht j c hj hc=>by
    by_cases e:j=pos
    ·subst e;rw[iL.out]at hc;obtain rfl:=Option.some.inj hc;exact ht
    ·exact HB.out j c aG hc)
   cases hlet:oM b.toNat
   ·have HL:=aF hlet;cases hdig:mO b.toNat
    ·have HD:=aF hdig;have hend:Q=false:=by rw[HQ.out];exact NQ iL (by unfold sM;rw[hlet,hdig];simp)
     subst hend;clear hlet hdig;go_wp2_with (first|(go_at_call 134;refine(EO b.toNat xN _).mono ?_;rintro e w1⟨rfl,rfl⟩;rw[HL.out])|(go_at_call 135;refine(Xk b.toNat xN _).mono ?_;rintro e w1⟨rfl,rfl⟩;rw[HD.out]))
     go_ret;exact⟨rfl,rfl⟩
    ·have HD:=aF hdig;have HT:=aF (show mQ b.toNat=true by unfold mQ;rw[hlet,hdig];rfl);clear hlet hdig;go_wp2_with (first|(go_at_call 134;refine(EO b.toNat xN _).mono ?_;rintro e w1⟨rfl,rfl⟩;rw[HL.out])|(go_at_call 135;refine(Xk b.toNat xN _).mono ?_;rintro e w1⟨rfl,rfl⟩;rw[HD.out]))
     go_roundg (l.length - (pos+1))
     case measure=>omega
     case rel=>exact⟨pos+1,aG,by go_num,rfl,aF (qQ.out HT)⟩
   ·have HL:=aF hlet;have HT:=aF (show mQ b.toNat=true by unfold mQ;rw[hlet];rfl);clear hlet;go_wp2_with (go_at_call 134;refine(EO b.toNat xN _).mono ?_;rintro e w1⟨rfl,rfl⟩;rw[HL.out])
    go_roundg (l.length - (pos+1))
    case measure=>omega
    case rel=>exact⟨pos+1,aG,by go_num,rfl,aF (qQ.out HT)⟩
  ·have bT: ¬(pos:Int)<(l.length:Int):=aG;have⟨q,hq⟩:=xq (isWord l);have hend:Q= !q:=by
    rw[HQ.out,hq,Bool.eq_iff_iff,Hf,Bool.not_eq_true'];refine⟨λh=>h.2.2.1,λh=>⟨H0,H20,h,λj b hb=> ?_⟩⟩;have hj:=(aj hb).1;have hw:=HB.out j b aG hb;unfold sM;cases j with
    |zero=>
     rw[ach.out]at hb;obtain rfl:=Option.some.inj hb;rw[yE.out];rfl
    |succ j=>unfold mQ at hw;simpa using hw
   have HWQ:=aF (λW=>(show Calls Tryz.prog 136 #[S l] W λe w'=>e= .returned (.bool q)/\w'=W by rw[hq];exact HWD W));clear hq HWD;subst hend;go_wp2_with (go_at_call 136;refine(HWQ _).mono ?_;rintro e w1⟨rfl,rfl⟩)
   go_ret;exact⟨rfl,rfl⟩
theorem Xu {B:Nat->Prop} (w:World) (v:Value) (l:List aK) (hv:aP B 1 dc w v l) (ha:∀x∈l,eH x) (hlm:∀x∈l,x.length<=1000000):
  Calls Tryz.prog 94 #[v] w λe w'=>e= .returned (.bool (l.all isName))/\w'=w:=by
 have⟨Q,hQ⟩:=xq (l.all isName);rw[<-hQ];have HQ:=aF hQ;obtain⟨a0,c0,rfl,hlen, -⟩:=id hv;have HV:=aF hv;have HA:=aF ha;have HM:=aF hlm;clear hv ha hlm hQ;go_enter Tryz.func94,Tryz.ntmps94;go_wp2;go_loopg [3] l.length (λgh i wr=>∃k:Nat,gh+k=l.length/\i=I k/\wr=w/\Hid (∀j,(hj:j<l.length)->j<k->isName l[j]=true))
 case atStart=>exact⟨0,rfl,rfl,rfl,aF (λj hj h=>absurd h aG)⟩
 case round=>
  obtain⟨k,hg,rfl,hwr,HH⟩:=hrel;obtain rfl:=hwr.symm;by_cases hlt:k<l.length
  ·have bT:(k:Int)<(l.length:Int):=aG;obtain⟨b,o,C,rfl,_,hC,hrx⟩:=HV.at hlt;have e0:=hC 0 aG;rw[show C 0=S l[k]from hrx]at e0;simp only[aA,Nat.mul_one]at e0;have⟨x,hx⟩:=xq (l[k]);have⟨q,hq⟩:=xq (isName x);have cJ:=λW=>JE x (by rw[hx];exact HA _ (ak hlt)) (by rw[hx];exact HM _ (ak hlt)) W;rw[<-hq]at cJ;rw[<-hx]at e0;have cv:=aF cJ;have HX:=aF hx;have kE:=aF hq;clear hC hrx cJ hx hq;cases q
   ·have hend:Q=false:=by
     rw[HQ.out];cases h:l.all isName with
     |false=>rfl
     |true=>
      have:=List.all_eq_true.1 h _ (ak hlt);rw[<-HX.out,<-kE.out]at this;cases this
    subst hend;go_wp2_with (go_at_call 93;refine(cv _).mono ?_;rintro e w1⟨rfl,rfl⟩)
    go_ret;exact⟨rfl,rfl⟩
   ·go_wp2_with (go_at_call 93;refine(cv _).mono ?_;rintro e w1⟨rfl,rfl⟩)
    go_roundg (l.length - (k+1))
    case measure=>omega
    case rel=>exact⟨k+1,aG,by go_num,rfl,aF (λj hj hjk=>by
     by_cases e:j=k
     ·subst e;rw[<-HX.out,<-kE.out]
     ·exact HH.out j hj aG)⟩
  ·have bT: ¬(k:Int)<(l.length:Int):=aG;have hend:Q=true:=by
    rw[HQ.out,List.all_eq_true];intro x hx;obtain⟨j,hj,rfl⟩:=List.getElem_of_mem hx;exact HH.out j hj aG
   subst hend;go_wp2;go_ret;exact⟨rfl,rfl⟩
theorem NJ {B:Nat->Prop} (w:World) (v:Value) (l:List aK) (x:aK) (hv:aP B 1 dc w v l):
  Calls Tryz.prog 56 #[v,S x] w λe w'=>e= .returned (.bool (decide (x∈l)))/\w'=w:=by
 have⟨Q,hQ⟩:=xq (decide (x∈l));rw[<-hQ];have HQ:=aF hQ;obtain⟨a0,c0,rfl,hlen, -⟩:=id hv;have HV:=aF hv;clear hv hQ;go_enter Tryz.func56,Tryz.ntmps56;go_wp2;go_loopg [5] l.length (λgh i wr=>∃k:Nat,gh+k=l.length/\i=I k/\wr=w/\Hid (∀j,(hj:j<l.length)->j<k->l[j]≠x))
 case atStart=>exact⟨0,rfl,rfl,rfl,aF (λj hj h=>absurd h aG)⟩
 case round=>
  obtain⟨k,hg,rfl,hwr,HH⟩:=hrel;obtain rfl:=hwr.symm;by_cases hlt:k<l.length
  ·have bT:(k:Int)<(l.length:Int):=aG;obtain⟨b,o,C,rfl,_,hC,hrx⟩:=HV.at hlt;have e0:=hC 0 aG;rw[show C 0=S l[k]from hrx]at e0;simp only[aA,Nat.mul_one]at e0;have⟨y,hy⟩:=xq (l[k]);rw[<-hy]at e0;have HY:=aF hy;clear hC hrx hy;by_cases hyx:y=x
   ·have hend:Q=true:=by
     rw[HQ.out,decide_eq_true_eq,<-hyx,HY.out];exact ak hlt
    subst hend;subst hyx;go_wp2;go_ret;exact⟨rfl,rfl⟩
   ·have hb:(y==x)=false:=bu hyx;have C7:=aF hyx;clear hyx;go_wp2;go_roundg (l.length - (k+1))
    case measure=>omega
    case rel=>exact⟨k+1,aG,by go_num,rfl,aF (λj hj hjk=>by
     by_cases e:j=k
     ·subst e;rw[<-HY.out];exact C7.out
     ·exact HH.out j hj aG)⟩
  ·have bT: ¬(k:Int)<(l.length:Int):=aG;have hend:Q=false:=by
    rw[HQ.out,decide_eq_false_iff_not];intro hx;obtain⟨j,hj,he⟩:=List.getElem_of_mem hx;exact HH.out j hj aG he
   subst hend;go_wp2;go_ret;exact⟨rfl,rfl⟩
theorem aP.take {α:Type} {B:Nat->Prop} {k:Nat} {R:World->(Nat->Value)->α->Prop} {w:World} {a:Option Addr} {c:Nat} {l:List α} (h:aP B k R w (.slice a l.length c) l) {n:Nat} (hn:n<=l.length):aP B k R w (.slice a n c) (l.take n):=by
 obtain⟨a',c',h1,h2,h3⟩:=h;obtain⟨rfl,rfl⟩:a=a'/\c=c':=by simpa using h1
 refine⟨a,c,by rw[List.length_take,Nat.min_eq_left hn],by rw[List.length_take];omega, ?_⟩;rcases h3 with rfl|⟨b,o,rfl,hb,h4⟩
 ·left;simp
 ·refine .inr ⟨b,o,rfl,hb,λi x hx=>h4 i x ?_⟩;rw[List.getElem?_take]at hx;split at hx
  ·exact hx
  ·cases hx
theorem Xe {l:List aK} (h:nS l=false):l.Nodup:=by
 have hp:=List.mergeSort_perm l λx y=>decide (x<=y);refine hp.nodup_iff.1 ?_;have hlen:(mP l).length=l.length:=NI l;unfold nS at h;simp only[decide_eq_false_iff_not,Nat.not_lt]at h;rw[<-hlen]at h;have hk:∀j,j<(mP l).length->Lib.keeps (mP l).toArray j=true:=by
  unfold Lib.compact Lib.compactUpTo at h;rw[aC]at h;have h2:((List.range (mP l).length).filter (Lib.keeps (mP l).toArray)).length=(List.range (mP l).length).length:=by
   have:=List.length_filter_le (Lib.keeps (mP l).toArray) (List.range (mP l).length);rw[List.length_range]at this|-;omega
  have h3:=List.length_filter_eq_length_iff.1 h2;exact λj hj=>h3 j (List.mem_range.2 hj)
 have hs:(mP l).Pairwise (·<=·):=by
  have:=List.pairwise_mergeSort (le:=λx y:aK=>decide (x<=y)) (λa b c h1 h2=>by
   simp only[decide_eq_true_eq]at*;exact List.le_trans h1 h2) (λa b=>by
   simp only[Bool.or_eq_true,decide_eq_true_eq];exact List.le_total a b) l
  exact this.imp (by intro a b h;simpa using h)
 show(mP l).Nodup;rw[List.Nodup,List.pairwise_iff_getElem];intro i j hi hj hij e;have Gn:j - 1<(mP l).length:=aG;have hkj:=hk j hj;unfold Lib.keeps at hkj;simp only[decide_eq_true_eq]at hkj;rw[List.getElem!_toArray,List.getElem!_toArray,getElem!_pos (mP l) j hj,getElem!_pos (mP l) (j - 1) Gn]at hkj;rcases hkj with h0|hne
 ·omega
 ·rcases Nat.lt_or_ge i (j - 1)with hlt|hge
  ·have h1:=(List.pairwise_iff_getElem.1 hs) i (j - 1) hi Gn hlt;have h2:=(List.pairwise_iff_getElem.1 hs) (j - 1) j Gn hj aG;rw[e]at h1;exact hne (List.le_antisymm h1 h2)
  ·obtain rfl:i=j - 1:=aG;exact hne e.symm
theorem af6 (l:List aK):nS l= !(decide l.Nodup):=by
 cases h:nS l with
 |false=>simp [Xe h]
 |true=>
  by_cases hn:l.Nodup
  ·rw[afd hn]at h;cases h
  ·simp [hn]
theorem QI {B:Nat->Prop} (w:World) (v:Value) (l:List aK) (hv:aP B 1 dc w v l) (hroom:∀a n c,v= .slice a n c->n<=c):
  CR 55 #[v] w (.bool (nS l)):=by
 have⟨Q,hQ⟩:=xq (nS l);rw[<-hQ];rw[af6]at hQ;have HQ:=aF hQ;obtain⟨a0,c0,rfl,hlen, -⟩:=id hv;have HV:=aF hv;have⟨N,hN⟩:=xq l.length;have hNc:N<=c0:=by have:=hroom _ _ _ rfl;omega
 clear hroom;rw[<-hN];have HN:=aF hN;have hNb:N<=1000000000:=aG;clear hv hQ hlen hN;go_enter Tryz.func55,Tryz.ntmps55;go_wp2;go_loopg [3] N (λgh i wr=>∃k:Nat,gh+k=N/\i=I k/\Hid (Below w w wr/\(l.take k).Nodup))
 case atStart=>exact⟨0,aG,rfl,aF ⟨Below.refl _ _,aH⟩⟩
 case round=>
  obtain⟨k,hg,rfl,HH⟩:=hrel;obtain⟨wo,rfl⟩:=xq wr;by_cases hlt:k<N
  ·have bT:(k:Int)<(N:Int):=aG;have hlt':k<l.length:=by rw[<-HN.out];exact hlt
   have hkc:(k:Int)<=(c0:Int):=aG;have hv':aP B 1 dc w (.slice a0 l.length c0) l:=HV.out;have ho:=hv'.below HH.out.1 (λC x h=>h);obtain⟨b,o,C,rfl,_,hC,hrx⟩:=ho.at hlt';have e0:=hC 0 aG;rw[show C 0=S l[k]from hrx]at e0;simp only[aA,Nat.mul_one]at e0;have⟨x,hx⟩:=xq (l[k]);rw[<-hx]at e0;have⟨q,hq⟩:=xq (decide (x∈l.take k));have Bv:=aF (λ(W:World) (hb:Below w w W)=>(show Calls Tryz.prog 56 #[.slice (some (b,o)) k c0,S x] W λe w'=>e= .returned (.bool q)/\w'=W by
    rw[hq];exact NJ W _ (l.take k) x ((hv'.below hb (λC x h=>h)).take aG)))
   have HX:=aF hx;have kE:=aF hq;have HE0:=aF e0;clear hC hrx hx hq ho hv';go_upto_region 4 with(fail)
   refine cC (λW=>W.cell? (b,o+k)=some (S x)) [0,0,0,0,0,0,0,1] (λwd hh=>(Yt hh _).trans HE0.out) λwd hh hgd hS=> ?_;have bE:=aF (HH.out.1.grown hgd HH.out.1.size aJ);clear hh hgd e0;refine nE ?_;cases q
   ·go_wp2_with (go_at_call 56;refine(Bv _ bE).mono ?_;rintro e w1⟨rfl,rfl⟩)
    refine bw (by assumption) λhS=> ?_;refine kK ?_;clear hS;go_wp2;go_roundg (N - (k+1))
    case measure=>omega
    case rel=>exact⟨k+1,aG,by go_num,aF ⟨bE,by
     have akz:x∉l.take k:=by simpa using kE.out.symm
     rw[List.take_succ_eq_append_getElem hlt',List.nodup_append];refine⟨HH.out.2,aH,λa ha b hb=> ?_⟩;obtain rfl:=ai hb;rw[<-HX.out];exact λe=>akz (e▸ha)⟩⟩
   ·have hend:Q=true:=by
     rw[HQ.out];have hin:x∈l.take k:=by simpa using kE.out.symm
     have: ¬l.Nodup:=λhn=>by
      have h1:(l.take (k+1)).Nodup:=hn.sublist (List.take_sublist _ _);rw[List.take_succ_eq_append_getElem hlt',List.nodup_append]at h1;exact h1.2.2 x hin (l[k]) aH HX
     simp [this]
    subst hend;go_wp2_with (go_at_call 56;refine(Bv _ bE).mono ?_;rintro e w1⟨rfl,rfl⟩)
    refine bw (by assumption) λhS=> ?_;refine kK ?_;clear hS;go_wp2;go_ret;exact⟨rfl,bE⟩
  ·have bT: ¬(k:Int)<(N:Int):=aG;have hend:Q=false:=by
    rw[HQ.out];have:=HH.out.2;rw[List.take_of_length_le (cw HN)]at this;simp [this]
   subst hend;go_wp2;go_ret;exact⟨rfl,HH.out.1⟩
theorem Nt (p:LP) (x:aK) (av fv:Value) (w:World) (B:Nat->Prop) (hx:PX B w av fv p):
  CR 35 #[.agg #[av,fv],S x] w (I (ji p x)):=by
 have⟨Q,hQ⟩:=xq (ji p x);rw[<-hQ];have HQ:=aF hQ;obtain⟨aa,ac,fa,fc,rfl,rfl⟩:=hx.slice;have⟨AN,iV⟩:=xq p.arrays.length;have⟨FN,nj⟩:=xq p.funcs.length;rw[<-iV,<-nj]at hx|-;have HX:=aF hx;have eT:=aF nj;have nJ:FN<=1000000000:=by
  obtain⟨_,_,_,h, -⟩:=hx.funcs;omega
 have⟨w0,hw0⟩:=xq (w.alloc (.cells #[.slice aa AN ac, .slice fa FN fc] 27));have dO:=hw0.symm;have bg:=aF (gI hw0);have b_:=dZ hw0;have r1:=b_.k1;have oC:=aF b_;clear hx hQ iV nj hw0 b_;go_enter Tryz.func35,Tryz.ntmps35;go_wp2;clear dO;go_loopg [5] FN (λgh i wr=>∃k:Nat,gh+k=FN/\i=I k/\wr=w0/\Hid (∀j,(hj:j<p.funcs.length)->j<k->p.funcs[j].name≠x))
 case atStart=>exact⟨0,aG,rfl,rfl,aF (λj hj h=>absurd h aG)⟩
 case round=>
  obtain⟨k,hg,rfl,hwr,HH⟩:=hrel;obtain rfl:=hwr.symm;by_cases hlt:k<FN
  ·have bT:(k:Int)<(FN:Int):=aG;have hlt':k<p.funcs.length:=by rw[<-eT.out];exact hlt
   obtain⟨b,o,C,rfl,_,hC,hrx⟩:=(show aP B 4 (RF B) w0 (.slice fa FN fc) p.funcs from(HX.below bg).funcs).at hlt';have e0:=hC 0 aG;rw[hrx.1]at e0;simp only[aA]at e0;have⟨y,hy⟩:=xq (p.funcs[k].name);rw[<-hy]at e0;have HY:=aF hy;clear hC hrx hy;by_cases hyx:y=x
   ·have hend:Q=(k:Int):=by
     rw[HQ.out];exact BX hlt' (λj hj=>by simpa using HH.out j aG hj) (by simpa using HY.out.symm.trans hyx)
    subst hend;subst hyx;go_wp2;go_ret;exact⟨rfl,bg⟩
   ·have hb:(y==x)=false:=bu hyx;have C7:=aF hyx;clear hyx;go_wp2;go_roundg (FN - (k+1))
    case measure=>omega
    case rel=>exact⟨k+1,aG,by go_num,rfl,aF (λj hj hjk=>by
     by_cases e:j=k
     ·subst e;rw[<-HY.out];exact C7.out
     ·exact HH.out j hj aG)⟩
  ·have bT: ¬(k:Int)<(FN:Int):=aG;have hend:Q= -1:=by
    rw[HQ.out];exact BU λj hj=>by simpa using HH.out j hj (cw eT)
   subst hend;go_wp2;go_ret;exact⟨rfl,bg⟩
theorem Ns (p:LP) (x:aK) (av fv:Value) (w:World) (B:Nat->Prop) (hx:PX B w av fv p):
  CR 137 #[.agg #[av,fv],S x] w (I (lK p x)):=by
 have⟨Q,hQ⟩:=xq (lK p x);rw[<-hQ];have HQ:=aF hQ;obtain⟨aa,ac,fa,fc,rfl,rfl⟩:=hx.slice;have⟨AN,iV⟩:=xq p.arrays.length;have⟨FN,nj⟩:=xq p.funcs.length;rw[<-iV,<-nj]at hx|-;have HX:=aF hx;have mD:=aF iV;have nJ:AN<=1000000000:=by
  obtain⟨_,_,_,h, -⟩:=hx.arrays;omega
 have⟨w0,hw0⟩:=xq (w.alloc (.cells #[.slice aa AN ac, .slice fa FN fc] 27));have dO:=hw0.symm;have bg:=aF (gI hw0);have b_:=dZ hw0;have r1:=b_.k0;have oC:=aF b_;clear hx hQ iV nj hw0 b_;go_enter Tryz.func137,Tryz.ntmps137;go_wp2;clear dO;go_loopg [5] AN (λgh i wr=>∃k:Nat,gh+k=AN/\i=I k/\wr=w0/\Hid (∀j,(hj:j<p.arrays.length)->j<k->p.arrays[j].name≠x))
 case atStart=>exact⟨0,aG,rfl,rfl,aF (λj hj h=>absurd h aG)⟩
 case round=>
  obtain⟨k,hg,rfl,hwr,HH⟩:=hrel;obtain rfl:=hwr.symm;by_cases hlt:k<AN
  ·have bT:(k:Int)<(AN:Int):=aG;have hlt':k<p.arrays.length:=by rw[<-mD.out];exact hlt
   obtain⟨b,o,C,rfl,_,hC,hrx⟩:=(show aP B 2 wO w0 (.slice aa AN ac) p.arrays from(HX.below bg).arrays).at hlt';have e0:=hC 0 aG;rw[hrx.1]at e0;simp only[aA]at e0;have⟨y,hy⟩:=xq (p.arrays[k].name);rw[<-hy]at e0;have HY:=aF hy;clear hC hrx hy;by_cases hyx:y=x
   ·have hend:Q=(k:Int):=by
     rw[HQ.out];exact BX hlt' (λj hj=>by simpa using HH.out j aG hj) (by simpa using HY.out.symm.trans hyx)
    subst hend;subst hyx;go_wp2;go_ret;exact⟨rfl,bg⟩
   ·have hb:(y==x)=false:=bu hyx;have C7:=aF hyx;clear hyx;go_wp2;go_roundg (AN - (k+1))
    case measure=>omega
    case rel=>exact⟨k+1,aG,by go_num,rfl,aF (λj hj hjk=>by
     by_cases e:j=k
     ·subst e;rw[<-HY.out];exact C7.out
     ·exact HH.out j hj aG)⟩
  ·have bT: ¬(k:Int)<(AN:Int):=aG;have hend:Q= -1:=by
    rw[HQ.out];exact BU λj hj=>by simpa using HH.out j hj (cw mD)
   subst hend;go_wp2;go_ret;exact⟨rfl,bg⟩
def rG (eo en:Int) (nm:aK) (al:Nat) (o n m:Bool) (k:Int):Bool:=(o||decide (eo=0))&&(n||decide (en=0))&&(m||decide (nm= []))&&decide ((al:Int)=k)
theorem afn (ek eo en:Int) (nm:aK) (aa:Option Addr) (al ac:Nat) (o n m:Bool) (k:Int) (w:World):
  CR 106 #[.agg #[I ek,I eo,I en,S nm, .slice aa al ac], .bool o, .bool n, .bool m,I k] w (.bool (rG eo en nm al o n m k)):=by
 have⟨Q,hQ⟩:=xq (rG eo en nm al o n m k);rw[<-hQ];unfold rG at hQ;have HQ:=aF hQ;have⟨w0,hw0⟩:=xq (w.alloc (.cells #[I ek,I eo,I en,S nm, .slice aa al ac] 31));have dO:=hw0.symm;have bg:=aF (gI hw0);have b_:=dZ hw0;have b1:=b_.k1;have b2:=b_.k2;have b3:=b_.k3;have b4:=b_.k4;clear hQ hw0 b_;have e1:o=true\/(o=false/\eo=0)\/(o=false/\eo≠0):=by cases o<;>simp;omega
 rcases e1 with rfl|⟨rfl,rfl⟩|⟨rfl,h1⟩
 case' inr.inr=>
  have h1':(eo==0)=false:=bu h1;obtain rfl:Q=false:=by rw[HQ.out];simp [h1]
  clear h1;go_enter Tryz.func106,Tryz.ntmps106;go_wp2;go_ret;exact⟨rfl,bg⟩
 all_goals
  have e2:n=true\/(n=false/\en=0)\/(n=false/\en≠0):=by cases n<;>simp;omega
  rcases e2 with rfl|⟨rfl,rfl⟩|⟨rfl,h1⟩
  case' inr.inr=>
   have h1':(en==0)=false:=bu h1;obtain rfl:Q=false:=by rw[HQ.out];simp [h1]
   clear h1;go_enter Tryz.func106,Tryz.ntmps106;go_wp2;go_ret;exact⟨rfl,bg⟩
  all_goals
   have e3:m=true\/(m=false/\nm= [])\/(m=false/\nm≠ []):=by cases m<;>simp;exact Classical.em _
   rcases e3 with rfl|⟨rfl,rfl⟩|⟨rfl,h1⟩
   case' inr.inr=>
    have h1':(nm== [])=false:=bu h1;obtain rfl:Q=false:=by rw[HQ.out];simp [h1]
    clear h1;go_enter Tryz.func106,Tryz.ntmps106;go_wp2;go_ret;exact⟨rfl,bg⟩
   all_goals
    by_cases h1:(al:Int)=k
    ·obtain rfl:Q=true:=by rw[HQ.out];simp [h1]
     subst h1;go_enter Tryz.func106,Tryz.ntmps106;go_wp2;go_ret;exact⟨rfl,bg⟩
    ·have h1':((al:Int)==k)=false:=bu h1;obtain rfl:Q=false:=by rw[HQ.out];simp [h1]
     clear h1;go_enter Tryz.func106,Tryz.ntmps106;go_wp2;go_ret;exact⟨rfl,bg⟩
def wj:Nat->LE->Nat
 |0,_=>1
 |m+1,e=>(e.args.foldl (λn x=>max n (wj m x)) 0)+1
theorem EU {α:Type} (f:α->Nat):∀(l:List α) (n b:Nat),l.foldl (λn x=>max n (f x)) n<=b↔n<=b/\∀x∈l,f x<=b
 | [],n,b=>by simp
 |y::l,n,b=>by
  rw[List.foldl_cons,EU f l]
  simp only[List.mem_cons,forall_eq_or_imp]
  rw[Nat.max_le,and_assoc]
theorem QL:∀(m:Nat) (e:LE),wj (m+1) e<=m↔wH m e
 |0,e=>by
  simp only[wj,wH]
  constructor
  ·intro h;omega
  ·exact λh=>h.elim
 |m+1,e=>by
  rw[wj,wH]
  constructor
  ·intro h x hx
   exact(QL m x).1 (((EU _ _ _ _).1 (Nat.le_of_succ_le_succ h)).2 x hx)
  ·intro h
   exact Nat.succ_le_succ ((EU _ _ _ _).2 ⟨aG,λx hx=>(QL m x).2 (h x hx)⟩)
theorem QZ:∀(m:Nat) (e:LE),wj m e<=m+1
 |0,e=>ay _
 |m+1,e=>by
  rw[wj]
  exact Nat.succ_le_succ ((EU _ _ _ _).2 ⟨aG,λx _=>QZ m x⟩)
def RV (m:Nat):Prop:=∀(e:LE) (av:Value) (w:World) (B:Nat->Prop),EX B w av e->CR 64 #[eV e av,I (m:Int)] w (I (wj m e))
theorem Xx (m:Nat) (hm:m<=1000) (ih:∀j,m=j+1->RV j):RV m:=by
 intro e av w B hx;obtain⟨Q,hQ⟩:∃Q:Nat,Q=wj m e:=⟨_,rfl⟩;rw[<-hQ];have HQ:=aF hQ;obtain⟨aa,ac,rfl⟩:=hx.slice;obtain⟨d,hx⟩:=hx;have⟨N,hN⟩:=xq e.args.length;have hNb:N<=1000000000:=by
  obtain⟨_,_,_,h, -⟩:=id hx;omega
 have⟨ek,lT⟩:=xq e.kind;have⟨eo,mg⟩:=xq e.op;have⟨en,hen⟩:=xq e.n;have⟨nm,cJ⟩:=xq e.name;have hval:eV e (.slice aa e.args.length ac)= .agg #[I ek,I eo,I en,S nm, .slice aa N ac]:=by rw[eV,lT,mg,hen,cJ,hN]
 rw[hval];have⟨w0,hw0⟩:=xq (w.alloc (.cells #[I ek,I eo,I en,S nm, .slice aa N ac] 31));have dO:=hw0.symm;have hb0:=gI hw0;have b_:=dZ hw0;have HX:=aF hx;have HN:=aF hN;have bg:=aF hb0;have oC:=aF b_;have HI:=aF ih;have zu: ¬0<(m:Int)\/0<(m:Int):=aG;clear hx hQ hN lT mg hen cJ hval hw0 hb0 b_ ih;go_enter Tryz.func64,Tryz.ntmps64;go_wp2;clear dO;go_loopg [5,6] N (λgh n i wr=>∃(k q:Nat),gh+k=N/\i=I k/\n=I q/\q<=1001/\Hid (Below w0 w0 wr/\(m=0->k=0)/\q=(e.args.take k).foldl (λn x=>max n (wj (m - 1) x)) 0))
 case atStart=>exact⟨0,0,aG,rfl,rfl,aG,aF ⟨Below.refl _ _,λ_=>rfl,rfl⟩⟩
 case round=>
  obtain⟨k,q,hg,rfl,rfl,Ep,HH⟩:=hrel;obtain⟨wo,rfl⟩:=xq wr;have hr1:=oC.ext HH.out.1;have b4:=hr1.k4;have bB:=aF (bg.out.trans (HH.out.1.mono bg.size));clear hr1;by_cases hgo:k<N/\0<m
  ·obtain⟨hlt,hm0⟩:=hgo;have bT:(k:Int)<(N:Int):=aG;have aky:0<(m:Int):=aG;have hlt':k<e.args.length:=by rw[<-HN.out];exact hlt
   obtain⟨j,Er⟩:∃j,m=j+1:=⟨m - 1,aG⟩;obtain⟨b,o,C,rfl,_,hC,hrx⟩:=(show aP B 5 (RE d B) wo (.slice aa e.args.length ac) e.args from HX.below bB (λC x h=>RE.below bB h)).at hlt';have e0:=hC 0 aG;have e1:=hC 1 aG;have e2:=hC 2 aG;have e3:=hC 3 aG;have e4:=hC 4 aG;simp only[aA]at e0 e1 e2 e3 e4;obtain⟨hev,hex⟩:=hrx.ev;have⟨x,hxk⟩:=xq (e.args[k]);rw[<-hxk]at hev hex;have hc:=HI j Er x (C 4) wo B hex;rw[<-hev]at hc;have⟨dq,Vg⟩:=xq (wj j x);rw[<-Vg,show(j:Int)=(m:Int) - 1 by omega]at hc;have hdb:dq<=1001:=by
    have:=QZ j x;omega
   have HC:=aF hc;have sX:=aF hxk;have HDQ:=aF Vg;have Vh:=aF Er;have hjb:j<=1000:=aG;clear hC hrx hev hex hc hxk Vg Er;go_wp2_with (go_at_call 64;refine aN HC λw1 aI=> ?_)
   go_roundg (N - (k+1))
   case measure=>omega
   case rel=>exact⟨k+1,max q dq,aG,by go_num,congrArg (λn:Int=>Value.int .i64 n) aG,aG,aF ⟨HH.out.1.trans (aI.mono HH.out.1.size),λh=>by omega,by
    rw[List.take_succ_eq_append_getElem hlt',List.foldl_append,<-HH.out.2.2];show max q dq=max q (wj (m - 1) e.args[k]);rw[<-sX.out,HDQ.out,show m - 1=j by have:=Vh.out;omega]⟩⟩
  ·have hend:Q=q+1:=by
    rw[HQ.out];cases m with
    |zero=>
     obtain rfl:=HH.out.2.1 rfl;rw[HH.out.2.2];rfl
    |succ j=>
     have hk:N<=k:=aG;rw[HH.out.2.2,wj,List.take_of_length_le (cw HN)];rfl
   obtain rfl:Q=q+1:=hend;by_cases hlt:k<N
   ·have bT:(k:Int)<(N:Int):=aG;have hm0: ¬0<(m:Int):=aG;go_wp2;go_ret;exact⟨rfl,bB⟩
   ·have bT: ¬(k:Int)<(N:Int):=aG;go_wp2;go_ret;exact⟨rfl,bB⟩
theorem XZ:∀(m:Nat),m<=1000->RV m
 |0,h=>Xx 0 h aJ
 |m+1,h=>Xx (m+1) h (λj e=>by
   obtain rfl:j=m:=aG
   exact XZ j aG)
end
end Go.Proofs.YtjgbkdbkachciaaGreatDoor
