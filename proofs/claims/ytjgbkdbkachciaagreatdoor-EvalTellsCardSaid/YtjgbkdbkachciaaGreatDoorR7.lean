import Derived.Test.YtjgbkdbkachciaaGreatDoorR5
import Derived.Lib.SmallJoins
set_option linter.all false
namespace Go.Proofs.YtjgbkdbkachciaaGreatDoor
set_option maxRecDepth 100000
set_option maxHeartbeats 16000000
section
open Go.RowKit Go.Shelf
attribute [local go_sem] Oper.semAt_some
theorem afM (w:World) (e:TypeId) (t:ByteArray):Below w w (Lib.bytesWorld w e t):=Go.Joins.below_bytesWorld _ w e t fQ
theorem agq (l:aK) (ha:eH l) (x:aK) (hx:x=l.take (gH mO l)) (k:Nat) (hk:k<100) (h1:Lib.atoi x=some (k:Int)) (h2:Lib.decDigits k=x) (F9:x.length<=18) (w:World):
  Calls Tryz.prog 173 #[S l] w (DF ⟨3,x,k,0⟩ w):=by
 have hnl:=JZ mO l;have hrun:∀W,CR 165 #[S l, .func (.func 172) #[] #[]] W (I (gH mO l)):=λW=>aim l ha W;have⟨n,hn⟩:=xq (gH mO l);rw[<-hn]at hrun hnl hx;have hmv:(⟨List.toArray l⟩:ByteArray).extract 0 n=⟨x.toArray⟩:=by rw[hx];exact NU l n
 have Z6:∀W,CR 199 #[S x] W (.tuple #[I k, .nilIface]):=λW=>
  (Tryz.strconv_Atoi ⟨x.toArray⟩ k F9 (by simpa using h1) W).mono λe w' ⟨he,t,hw⟩=>⟨he,by rw[hw];exact afM _ _ _⟩
 have Z7:∀W,Calls Tryz.prog 200 #[I k] W λe w'=>e= .returned (S x)/\W=w':=λW=>by
  rw[<-h2];exact(Tryz.strconv_Itoa_small k hk W).mono λe w' ⟨he,hw⟩=>⟨he,hw.symm⟩
 have iI:=aF hrun;have gN:=aF Z6;have HIT:=aF Z7;have Sv:(n:Int)<=(l.length:Int):=aG;clear ha hrun hn hx Z6 Z7 h1 h2;go_enter Tryz.func173,Tryz.ntmps173;go_wp2_with (first|(go_at_call 165;refine(iI _).mono ?_;rintro e w1⟨rfl,hb1⟩;have hz1:=hb1.size;rw[World.size_alloc]at hz1;have hk1:=(hb1.block w aH).trans hn0;have aI:=aF ((cm w _).trans (hb1.mono aH));have pI:=aF hk1;clear hb1 hk1)|(go_at_call 199;refine aN (gN _) λw3 hb3=> ?_;have hk3:=(hb3.block w aG).trans pI.out;have gy:=aF hk3;have aW:=aF (aI.out.trans (hb3.mono aG));clear hk3)|(go_at_call 200;refine(HIT _).mono ?_;rintro e w4⟨rfl,rfl⟩)|(refine wpList_store_row rfl 119 (.tmp 2) (.tmp 18) rfl w.heap.size _ rfl rfl 119 _ gy.out aL fV sv0 ?_))
 refine bodyPost_ret (BW rfl _ _ w 119 _ (0,0) _ rfl (setRow_heap _ _ _ _ _ _ gy.out) Tryz.underlying119 rfl aL) rfl ?_;refine⟨rfl,aW.grown (row:=some w) ⟨rfl,rfl,rfl,aH,λi _ hi=>setRow_other _ _ _ _ (λe=>hi (by rw[e]))⟩ aW.size u_⟩
def O0 (k:Nat):aK:=if k<10 then [UInt8.ofNat (48+k)]else [UInt8.ofNat (48+k/10),UInt8.ofNat (48+k%10)]
def abD (x:aK):Option Nat:=(List.range 100).find? λk=>x==O0 k
theorem ag6:∀k:Fin 100,Lib.atoi (O0 k.val)=some (k.val:Int):=CN
theorem ahO:∀k:Fin 100,(O0 k.val).length<=18:=CN
theorem ain {x:aK} {k:Nat} (h:abD x=some k):k<100/\Lib.decDigits k=x/\Lib.atoi x=some (k:Int)/\x.length<=18:=by
 have h1:=List.find?_some h;have h2:=List.mem_range.1 (List.mem_of_find?_eq_some h);simp only[beq_iff_eq]at h1;subst h1;refine⟨h2, ?_,ag6 ⟨k,h2⟩,ahO ⟨k,h2⟩⟩;unfold O0;split
 ·next h3=>exact Lib.decDigits_one h3
 ·next h3=>exact Lib.decDigits_two h3 h2
def ID (l:aK):Option Tok:=match l with
 | []=>none
 |c::_=>
  if JU c then
   let x:=l.take (gH mQ l)
   if isWord x then some ⟨2,x,0,0⟩else if isName x then some ⟨1,x,0,0⟩else none
  else if isDigit c then
   let x:=l.take (gH mO l)
   match abD x with
   |some k=>some ⟨3,x,k,0⟩
   |none=>none
  else if c=39 then none
  else(Og l).map λx=>⟨4,x,0,0⟩
theorem ag3 (l:aK) (ha:eH l) (t:Tok) (ht:ID l=some t) (w:World):Calls Tryz.prog 111 #[S l] w (DF t w):=by
 cases l with
 |nil=>cases ht
 |cons c r=>
  have⟨l,hl⟩:=xq (c::r);rw[<-hl]at ha ht|-;have hne:l≠ []:=by rw[hl];simp
  have hc:c.toNat<128:=ha c (by rw[hl];simp);have hcz:(c.toNat:Int)<128:=aG;have hlen:0<l.length:=by rw[hl];simp
  have h0:((⟨l.toArray⟩:ByteArray)[0]'hlen)=c:=by subst hl;rfl
  have OY:(oM c.toNat=true/\Calls Tryz.prog 171 #[S l] (w.alloc (.cells #[I 0,S [],I 0,I 0] 119)) (DF t (w.alloc (.cells #[I 0,S [],I 0,I 0] 119))))\/
   (oM c.toNat=false/\mO c.toNat=true/\Calls Tryz.prog 173 #[S l] (w.alloc (.cells #[I 0,S [],I 0,I 0] 119)) (DF t (w.alloc (.cells #[I 0,S [],I 0,I 0] 119))))\/
   (oM c.toNat=false/\mO c.toNat=false/\c.toNat≠39/\Calls Tryz.prog 175 #[S l] (w.alloc (.cells #[I 0,S [],I 0,I 0] 119)) (DF t (w.alloc (.cells #[I 0,S [],I 0,I 0] 119)))):=by
   unfold ID at ht;rw[hl]at ht;simp only[<-hl]at ht;rw[G_,Nz]at ht;cases hlt:oM c.toNat
   ·rw[hlt]at ht;simp only[Bool.false_eq_true,if_false]at ht;cases hd:mO c.toNat
    ·rw[hd]at ht;simp only[Bool.false_eq_true,if_false]at ht;split at ht
     ·cases ht
     ·next Wo=>
      obtain⟨x,hx,rfl⟩:=Option.map_eq_some_iff.1 ht;exact .inr (.inr ⟨rfl,rfl,λe=>Wo (by rw[<-UInt8.toNat_inj];exact e),ahM l x hne hx _⟩)
    ·rw[hd]at ht;simp only[if_true]at ht;split at ht
     ·next k hk=>
      cases ht;obtain⟨n1,n2,n3,n4⟩:=ain hk;exact .inr (.inl ⟨rfl,rfl,agq l ha _ rfl k n1 n3 n2 n4 _⟩)
     ·cases ht
   ·rw[hlt]at ht;simp only[if_true]at ht;split at ht
    ·next h=>cases ht;exact .inl ⟨rfl,YW l ha _ rfl 2 (.inl ⟨rfl,h⟩) _⟩
    ·next h=>
     split at ht
     ·next h2=>cases ht;exact .inl ⟨rfl,YW l ha _ rfl 1 (.inr ⟨rfl,by simpa using h,h2⟩) _⟩
     ·cases ht
  have hlet:∀W,Calls Tryz.prog 170 #[R32 c.toNat] W λe w'=>e= .returned (.bool (oM c.toNat))/\W=w':=λW=>Dx _ W aG hcz;have hdig:∀W,Calls Tryz.prog 172 #[R32 c.toNat] W λe w'=>e= .returned (.bool (mO c.toNat))/\W=w':=λW=>BZ _ W aG hcz;have Ub:=aF hlet;have abE:=aF hdig;have HT:=aF ht;have PK:(0:Int)<(l.length:Int):=aG;clear hlet hdig ht ha hl hne;go_enter Tryz.func111,Tryz.ntmps111;rcases OY with⟨h1,hcall⟩|⟨h1,h2,hcall⟩|⟨h1,h2,Wo,hcall⟩
  ·have H1:=aF h1;have HC:=aF hcall;clear h1 hcall;go_wp2_with (first|(go_at_call 170;refine(Ub _).mono ?_;rintro e w1⟨rfl,rfl⟩;rw[H1.out])|(go_at_call 171;refine aN HC λw2 hb2=> ?_;rw[World.size_alloc]at hb2;have hk2:=(hb2.block w aG).trans hn0;have jr:=aF hk2;have aM:=aF ((cm w _).trans (hb2.mono aG));clear hk2)|(refine wpList_store_row rfl 119 (.tmp 2) (.tmp 13) rfl w.heap.size _ rfl rfl 119 _ jr.out aL fV sv0 ?_))
   refine bodyPost_ret (BW rfl _ _ w 119 _ (0,0) _ rfl (setRow_heap _ _ _ _ _ _ jr.out) Tryz.underlying119 rfl aL) rfl ?_;exact⟨rfl,aM.grown (row:=some w) ⟨rfl,rfl,rfl,aH,λi _ hi=>setRow_other _ _ _ _ (λe=>hi (by rw[e]))⟩ aM.size u_⟩
  ·have H1:=aF h1;have H2:=aF h2;have HC:=aF hcall;clear h1 h2 hcall;go_wp2_with (first|(go_at_call 170;refine(Ub _).mono ?_;rintro e w1⟨rfl,rfl⟩;rw[H1.out])|(go_at_call 172;refine(abE _).mono ?_;rintro e w1⟨rfl,rfl⟩;rw[H2.out])|(go_at_call 173;refine aN HC λw2 hb2=> ?_;rw[World.size_alloc]at hb2;have hk2:=(hb2.block w aG).trans hn0;have jr:=aF hk2;have aM:=aF ((cm w _).trans (hb2.mono aG));clear hk2)|(refine wpList_store_row rfl 119 (.tmp 2) (.tmp 20) rfl w.heap.size _ rfl rfl 119 _ jr.out aL fV sv0 ?_))
   refine bodyPost_ret (BW rfl _ _ w 119 _ (0,0) _ rfl (setRow_heap _ _ _ _ _ _ jr.out) Tryz.underlying119 rfl aL) rfl ?_;exact⟨rfl,aM.grown (row:=some w) ⟨rfl,rfl,rfl,aH,λi _ hi=>setRow_other _ _ _ _ (λe=>hi (by rw[e]))⟩ aM.size u_⟩
  ·have H1:=aF h1;have H2:=aF h2;have HC:=aF hcall;have ap4:((c.toNat:Int)==39)=false:=bD;clear h1 h2 hcall Wo;go_wp2_with (first|(go_at_call 170;refine(Ub _).mono ?_;rintro e w1⟨rfl,rfl⟩;rw[H1.out])|(go_at_call 172;refine(abE _).mono ?_;rintro e w1⟨rfl,rfl⟩;rw[H2.out])|(go_at_call 175;refine aN HC λw2 hb2=> ?_;rw[World.size_alloc]at hb2;have hk2:=(hb2.block w aG).trans hn0;have jr:=aF hk2;have aM:=aF ((cm w _).trans (hb2.mono aG));clear hk2)|(refine wpList_store_row rfl 119 (.tmp 2) (.tmp 31) rfl w.heap.size _ rfl rfl 119 _ jr.out aL fV sv0 ?_))
   refine bodyPost_ret (BW rfl _ _ w 119 _ (0,0) _ rfl (setRow_heap _ _ _ _ _ _ jr.out) Tryz.underlying119 rfl aL) rfl ?_;exact⟨rfl,aM.grown (row:=some w) ⟨rfl,rfl,rfl,aH,λi _ hi=>setRow_other _ _ _ _ (λe=>hi (by rw[e]))⟩ aM.size u_⟩
theorem ahI (l:aK) (ha:eH l) (hp:Lib.hasPrefix (l.drop (gH lY l)) [47,47]=false) (hl:l.length<=1000000) (w:World):
  CR 110 #[S l] w (.tuple #[S (l.drop (gH lY l)),I (Lib.countByte (l.take (gH lY l)) 10), .bool true]):=by
 have hnl:=JZ lY l;have hrun:∀W,CR 165 #[S l, .func (.func 166) #[] #[]] W (I (gH lY l)):=λW=>aik l ha W;have⟨n,hn⟩:=xq (gH lY l);rw[<-hn]at hrun hnl hp|-;have⟨x,hx⟩:=xq (l.take n);have⟨r,hr⟩:=xq (l.drop n);rw[<-hx,<-hr];rw[<-hr]at hp;have hmx:(⟨List.toArray l⟩:ByteArray).extract 0 n=⟨x.toArray⟩:=by rw[hx];exact NU l n
 have hmr:(⟨List.toArray l⟩:ByteArray).extract n l.length=⟨r.toArray⟩:=by rw[hr];exact Y4 l n
 have hcb:(Lib.countByte x 10:Int)<=1000000:=by
  have h1:=List.count_le_length (a:=(10:UInt8)) (l:=x);have h2:x.length<=l.length:=by rw[hx,List.length_take];omega
  unfold Lib.countByte;omega
 obtain⟨c,hc⟩:∃c:Nat,c=Lib.countByte x 10:=⟨_,rfl⟩;rw[<-hc]at hcb|-;have aa':∀W,Calls Tryz.prog 167 #[S x, .string ⟨#[10]⟩] W λe w'=>e= .returned (I c)/\W=w':=λW=>by
  rw[hc];exact(Tryz.strings_Count_one ⟨x.toArray⟩ 10 W).mono λe w' ⟨he,hw⟩=>⟨by rw[he],hw.symm⟩
 have hpre:∀W,Calls Tryz.prog 168 #[S r, .string ⟨#[47,47]⟩] W λe w'=>e= .returned (.bool false)/\W=w':=λW=>
  (Tryz.strings_HasPrefix ⟨r.toArray⟩ ⟨#[47,47]⟩ W).mono λe w' ⟨he,hw⟩=>⟨by rw[he];simp only[];rw[hp],hw.symm⟩
 have iI:=aF hrun;have ak9:=aF aa';have OX:=aF hpre;have Sv:(n:Int)<=(l.length:Int):=aG;clear ha hp hrun hn hx hr aa' hpre hc;go_enter Tryz.func110,Tryz.ntmps110;go_wp2;go_loopg [0,3] 0 (λgh v0 v3 wr=>v0=S l/\v3=I 0/\wr=w)
 case atStart=>exact⟨rfl,rfl,rfl⟩
 case round=>
  obtain⟨rfl,rfl,rfl⟩:=hrel;go_wp2_with (first|(go_at_call 165;refine aN (iI _) λw1 aI=> ?_)|(go_at_call 167;refine(ak9 _).mono ?_;rintro e w3⟨rfl,rfl⟩)|(go_at_call 168;refine(OX _).mono ?_;rintro e w4⟨rfl,rfl⟩))
  go_ret3;exact⟨rfl,aI⟩
def DI:Nat->Int->aK->Option (List Tok)
 |0,_,_=>none
 |k+1,line,l=>
  if Lib.hasPrefix (l.drop (gH lY l)) [47,47]then none
  else if l.drop (gH lY l)= []then some [⟨5,[],0,line+Lib.countByte (l.take (gH lY l)) 10⟩]
  else match ID (l.drop (gH lY l))with
   |none=>none
   |some t=>(DI k (line+Lib.countByte (l.take (gH lY l)) 10) ((l.drop (gH lY l)).drop t.text.length)).map λts=>⟨t.kind,t.text,t.n,line+Lib.countByte (l.take (gH lY l)) 10⟩::ts
def wR (t:Tok):List Value:= [I t.kind,S t.text,I t.n,I t.line]
theorem Ri (t:Tok):(wR t).length=4:=rfl
theorem Y5 (t:Tok):∀u∈wR t,u.oneCell'=true:=by intro u hu;simp [wR]at hu;rcases hu with rfl|rfl|rfl|rfl<;>rfl
theorem Z3:oZ 110 119 4 40:=oZ.mk' (z:= .agg #[.int .i64 0, .string ByteArray.empty, .int .i64 0, .int .i64 0]) Tryz.underlying110 aL rfl aQ
theorem ahJ {p:Int->Bool} {c:UInt8} {r:aK} (h:p c.toNat=true):1<=gH p (c::r):=by
 unfold gH;rw[List.takeWhile_cons,h];simp
theorem ag2 {l:aK} {t:Tok} (h:ID l=some t):1<=t.text.length/\t.text.length<=l.length:=by
 cases l with
 |nil=>cases h
 |cons c r=>
  unfold ID at h;simp only[]at h;have htk:∀(p:Int->Bool),p c.toNat=true->1<=((c::r).take (gH p (c::r))).length/\((c::r).take (gH p (c::r))).length<=(c::r).length:=λp hp=>by
   have h1:=ahJ (p:=p) (c:=c) (r:=r) hp;have h2:=JZ p (c::r);rw[List.length_take];omega
  split at h
  ·next hl=>
   have hw:mQ c.toNat=true:=by unfold mQ;rw[<-G_,hl];rfl
   split at h
   ·cases h;exact htk _ hw
   ·split at h
    ·cases h;exact htk _ hw
    ·cases h
  ·split at h
   ·next hd=>
    have hw:mO c.toNat=true:=by rw[<-Nz,hd]
    split at h
    ·cases h;exact htk _ hw
    ·cases h
   ·split at h
    ·cases h
    ·obtain⟨x,hx,rfl⟩:=Option.map_eq_some_iff.1 h;rcases XG hx aH with⟨h1,_,h2⟩|⟨h1,_,_,h2⟩|⟨h1,_,h2⟩
     all_goals
      simp only[];rw[h2,List.length_take];omega
theorem ahs (l0:aK) (ha:eH l0) (hl:l0.length<=20000) (fuel:Nat) (lR:List Tok) (ht:DI fuel 1 l0=some lR) (w:World):
  Calls Tryz.prog 68 #[S l0] w λe w'=>∃v,e= .returned (.tuple #[v,I 0,I 0])/\a_ 4 119 wR w' w v lR/\Below w w w':=by
 have HT:=aF ht;have HA:=aF ha;have h20: ¬(l0.length:Int)>20000:=aG;clear ht ha;go_enter Tryz.func68,Tryz.ntmps68;go_wp2;go_loopg [0,2,5] fuel (λgh v0 v2 v5 wr=>∃(l:aK) (line:Int) (done rest:List Tok),v0=S l/\v5=I line/\Below w w wr/\a_ 4 119 wR wr w v2 done/\Hid (eH l/\l.length<=20000/\0<=line/\line+l.length<=20001/\done.length+l.length<=20000/\DI gh line l=some rest/\lR=done++rest))
 case atStart=>
  refine⟨l0,1,[],lR,rfl,rfl,Below.refl _ _,a_.nil,aF ⟨HA,hl,aG,aG,ct,HT,rfl⟩⟩
 case round=>
  obtain⟨l,line,done,rest,rfl,rfl,hb,hown,HX⟩:=hrel;obtain⟨wo,rfl⟩:=xq wr;obtain⟨hal,hll,hl0,nY,xF,hsc,V8⟩:=HX.out;obtain⟨g1,rfl⟩:∃g1,gk=g1+1:=by
   cases gk with
   |zero=>cases hsc
   |succ k=>exact⟨k,rfl⟩
  have hnl:=JZ lY l;have hcr:Lib.countByte (l.take (gH lY l)) 10+(l.drop (gH lY l)).length<=l.length:=by
   have h1:=List.count_le_length (a:=(10:UInt8)) (l:=l.take (gH lY l));rw[List.length_take]at h1;rw[List.length_drop];unfold Lib.countByte;omega
  have har:=hal.drop (gH lY l);have Kh:=λ(hp:Lib.hasPrefix (l.drop (gH lY l)) [47,47]=false) (W:World)=>ahI l hal hp aG W
  unfold DI at hsc;have⟨r,hr⟩:=xq (l.drop (gH lY l));obtain⟨c,hc⟩:∃c:Nat,c=Lib.countByte (l.take (gH lY l)) 10:=⟨_,rfl⟩;rw[<-hr,<-hc]at hsc Kh hcr;rw[<-hr]at har;clear hr hc;cases hp:Lib.hasPrefix r [47,47]
  case true=>rw[hp]at hsc;simp at hsc
  rw[hp]at hsc;simp only[Bool.false_eq_true,if_false]at hsc;replace Kh:=Kh hp;have HS:=aF Kh;have HB:=aF hb;have HO:=aF hown;have V9:=hb.size;obtain⟨ln,nJ⟩:∃ln:Int,ln=line+(c:Int):=⟨_,rfl⟩;rw[<-nJ]at hsc;have hwl:line+(c:Int)=ln:=nJ.symm;have ak_:0<=ln/\ln+r.length<=20001:=aG
  obtain⟨ak',apR⟩:=ak_;have TY:done.length+r.length<=20000:=aG;have HTO:=aF V8;clear Kh hp hb hown HX hal hll V8 hnl;by_cases hre:r= []
  ·subst hre;simp only[if_true,Option.some.injEq]at hsc;have nM:=aF hsc;have lV:done.length<=1000000000:=by simp at TY;omega
   clear hsc nJ;go_wp2_with (first|(go_at_call 110;refine(HS _).mono ?_;rintro e w1⟨rfl,hb1⟩;have aI:=aF (HB.out.trans (hb1.mono V9));have fk:=aF (HO.tag (bX hb1 none) eF);have hz1:=hb1.size;clear hb1)|(at_builtin;refine lX Z3 rfl (.tmp 28) (.tmp 31) rfl Ri Y5 w.heap.size _ done rfl (fk.tag iD eF) w1.heap.size ⟨5,[],0,ln⟩ rfl (λj hj=>(cell_of_block hn0 j).trans (by simp [wR])) lV aG ct ?_;intro g2 cap2 w2 jh hg2 xW qI;have kX:=aF jh;have aM:=aF ((aI.alloc aG _).grown hg2 ct (λr e=>(cO fk r e).1));clear jh hg2 xW))
   go_ret3;exact⟨_,rfl,by rw[HTO.out,<-nM.out];exact kX.out,aM⟩
  ·rw[if_neg hre]at hsc;cases htk:ID r with
   |none=>rw[htk]at hsc;cases hsc
   |some t=>
    rw[htk]at hsc;simp only[]at hsc;obtain⟨ts,hts,aba⟩:=Option.map_eq_some_iff.1 hsc;have OY:∀W,Calls Tryz.prog 111 #[S r] W (DF t W):=λW=>ag3 r har t htk W;have fL:=aF OY;obtain⟨ala,alb⟩:=ag2 htk;have⟨tl,htl⟩:=xq t.text.length;rw[<-htl]at ala alb;have I1:(⟨List.toArray r⟩:ByteArray).extract tl r.length=⟨(r.drop tl).toArray⟩:=Y4 r tl;have apS:List.length t.text=tl:=htl.symm;have apT:(tl:Int)<=(r.length:Int):=aG;rw[<-htl]at hts;have ao_:(r== [])=false:=bu hre;have HTS:=aF hts;have fP:=aF aba;have mV:=aF har;clear hsc OY hre htk hts aba har nJ htl;go_upto_region 9 with(go_at_call 110;refine(HS _).mono ?_;rintro e w1⟨rfl,hb1⟩;have aI:=aF (HB.out.trans (hb1.mono V9));have fk:=aF (HO.tag (bX hb1 none) eF);have hz1:=hb1.size;clear hb1)
    have⟨b,ng⟩:=xq w1.heap.size;have⟨w5,bQ⟩:=xq (w1.alloc (.cells #[.int .i64 0, .string ⟨#[]⟩, .int .i64 0, .int .i64 0] 119));have bz:=gI bQ;have cg:w5.heap[b]? =some (.cells #[.int .i64 0, .string ⟨#[]⟩, .int .i64 0, .int .i64 0] 119 (0,0)):=by rw[bQ,ng];exact cj _ _
    have pE:b<w5.heap.size:=by rw[bQ,ng];simp
    rw[<-bQ,<-ng];have yG:w.heap.size<=b:=by have:=aI.size;omega
    have bW:=aU aI bz;have dQ:=aF (fk.tag (bX bz none) eF);have mE:Hid (∀k,u2.ownBlock=some k->k<b):=λk e=>by rw[ng];exact(cO fk k e).2
    have dG:=aF cg;clear bQ bz cg ng;go_upto_region 13 with(first|(go_at_call 111;refine(fL _).mono ?_;rintro e w6⟨rfl,bV⟩;have cY:=aF (bW.out.trans (bV.mono aG));have gK:=aF (dQ.tag (bX bV none) eF);have mX:=(bV.block b pE).trans dG.out;have ym:=bV.size;have ir:=aF mX;clear bV mX)|(refine wpList_store_row rfl 119 (.tmp 9) (.tmp 37) rfl b _ rfl rfl 119 _ ir.out aL fV sv0 ?_))
    have⟨w7,cT⟩:=xq (w6.setRow b #[I t.kind,S t.text,I t.n,I t.line]);have rD:w6.grownBy w7 (some b):=by rw[cT];exact⟨rfl,rfl,rfl,aH,λi _ hi=>setRow_other _ _ _ _ (λe=>hi (by rw[e]))⟩
    have kC:Row w7 b 119 [I t.kind,S t.text,I t.n,I t.line]:=by rw[cT];exact setRow_heap _ _ _ _ _ _ ir.out
    rw[<-cT];have iK:=aF (cY.grown rD cY.size (λr e=>by cases e;exact yG));have ho7:a_ 4 119 wR w7 w u2 done:=by
     refine j0 gK rD ?_;cases hv:u2.ownBlock with
     |none=>exact .inl rfl
     |some k=>exact .inr (λe=>by cases e;have:=mE b hv;omega)
    have HO7:=aF ho7;have nI:=aF kC;have hc3:=kC.k3;have hf3:=kC.frozen 3;have Ga:b<w7.heap.size:=kC.lt;clear cT rD kC ho7;go_upto_region 14 with(fail)
    have⟨w8,nP⟩:=xq (w7.setCell (b,3) (I ln));have lI:w7.grownBy w8 (some b):=by rw[nP];exact bO _ _ _ _
    have BI:Row w8 b 119 [I t.kind,S t.text,I t.n,I ln]:=by rw[nP];exact nI.set 3 (I ln)
    rw[<-nP];have yf:=aF (iK.grown lI iK.size (λr e=>by cases e;exact yG));have qd:a_ 4 119 wR w8 w u2 done:=by
     refine j0 HO7 lI ?_;cases hv:u2.ownBlock with
     |none=>exact .inl rfl
     |some k=>exact .inr (λe=>by cases e;have:=mE b hv;omega)
    have Ez:=aF qd;have kW:=aF BI;have e0:=BI.k0;have e1:=BI.k1;have e2:=BI.k2;have e3:=BI.k3;have hz8:b<w8.heap.size:=BI.lt;have lV:done.length<=1000000000:=aG;have hB8:=yf.size;clear nP lI BI qd hc3 hf3;go_wp2_with (at_builtin;refine lX Z3 rfl (.tmp 44) (.tmp 46) rfl Ri Y5 w.heap.size _ done rfl (Ez.tag iD eF) w8.heap.size ⟨t.kind,t.text,t.n,ln⟩ rfl (λj hj=>(cell_of_block hn0 j).trans (by simp [wR])) lV aG ct ?_;intro g2 cap2 w9 jB f_ OP aaO;have AP:=aF jB;have vk:=aF ((yf.alloc hB8 _).grown f_ ct (λr e=>(cO Ez r e).1));have M6:Row w9 b 119 [I t.kind,S t.text,I t.n,I ln]:=Row.kept (w:=w8.alloc (.cells #[I t.kind,S t.text,I t.n,I ln] 119)) (ho0 kW.out) f_ (λe=>by have:=mE b e.symm;omega);have c1:=M6.k1;clear jB f_ OP M6 e0 e1 e2 e3)
    go_roundg g1
    case measure=>omega
    case rel=>
     refine⟨r.drop tl,ln,done++ [⟨t.kind,t.text,t.n,ln⟩],ts,rfl,rfl,vk,AP.out,aF ⟨mV.drop tl, ?_,ak', ?_, ?_,HTS, ?_⟩⟩
     ·rw[List.length_drop];omega
     ·rw[List.length_drop];omega
     ·rw[List.length_drop,ax];simp;omega
     ·rw[HTO.out,<-fP.out];simp
end
end Go.Proofs.YtjgbkdbkachciaaGreatDoor
