import Derived.Test.YtjgbkdbkachciaaGreatDoorQ0
import Derived.Laws.EntriesVeiled
import Derived.Laws.RangeString
import Derived.Laws.RangeAny
import Derived.Deep.CutBlock
import Derived.Lib.Strings
set_option linter.all false
namespace Go.Proofs.YtjgbkdbkachciaaGreatDoor
set_option maxRecDepth 100000
set_option maxHeartbeats 16000000
section
abbrev aK:=List UInt8
structure Tok where
 kind:Int
 text:aK
 n:Int
 line:Int
deriving DecidableEq
inductive LE where
 |mk (kind op n:Int) (name:aK) (args:List LE)
def LE.kind:LE->Int| .mk k _ _ _ _=>k
def LE.op:LE->Int| .mk _ o _ _ _=>o
def LE.n:LE->Int| .mk _ _ n _ _=>n
def LE.name:LE->aK| .mk _ _ _ s _=>s
def LE.args:LE->List LE| .mk _ _ _ _ l=>l
inductive LS where
 |mk (kind:Int) (name:aK) (args:List LE) (thn els:List LS)
def LS.kind:LS->Int| .mk k _ _ _ _=>k
def LS.name:LS->aK| .mk _ s _ _ _=>s
def LS.args:LS->List LE| .mk _ _ l _ _=>l
def LS.thn:LS->List LS| .mk _ _ _ l _=>l
def LS.els:LS->List LS| .mk _ _ _ _ l=>l
structure LF where
 name:aK
 params:List aK
 locals:List aK
 body:List LS
structure LA where
 name:aK
 size:Int
structure LP where
 arrays:List LA
 funcs:List LF
def rF (op:Int):aK:=
 if op=1 then [43]else if op=2 then [45]else if op=3 then [42]else if op=4 then [47]else if op=5 then [37]else if op=6 then [38]
 else if op=7 then [124]else if op=8 then [94]else if op=9 then [60,60]else if op=10 then [62,62]else if op=11 then [60]else if op=12 then [60,61]
 else if op=13 then [62]else if op=14 then [62,61]else if op=15 then [61,61]else if op=16 then [33,61]else if op=17 then [45]else if op=18 then [33]
 else if op=19 then [126]else []
def nT (op:Int):Int:=
 if op=1\/op=2 then 7 else if op=3\/op=4\/op=5 then 8 else if op=6 then 3 else if op=7 then 1 else if op=8 then 2
 else if op=9\/op=10 then 6 else if 11<=op/\op<=14 then 5 else if op=15\/op=16 then 4 else 0
def JU (b:UInt8):Bool:=b==95||(decide (97<=b.toNat)&&decide (b.toNat<=122))||(decide (65<=b.toNat)&&decide (b.toNat<=90))
def isDigit (b:UInt8):Bool:=decide (48<=b.toNat)&&decide (b.toNat<=57)
def aoZ (b:UInt8):Bool:=b==32||b==9||b==10||b==13
def E_:List aK:= [[105,110,116],[105,102],[101,108,115,101],[119,104,105,108,101],[98,114,101,97,107],[99,111,110,116,105,110,117,101],[114,101,116,117,114,110],[112,114,105,110,116],[114,101,97,100],[116,114,97,112]]
def isWord (s:aK):Bool:=E_.contains s
def tH:List aK:= [[61,61],[33,61],[60,61],[62,61],[60,60],[62,62],[40],[41],[123],[125],[91],[93],[44],[59],[61],[124],[94],[38],[43],[45],[42],[47],[37],[33],[126],[60],[62]]
def isName (s:aK):Bool:= !s.isEmpty&&decide (s.length<=20)&& !isWord s&&(s.head?.map JU).getD false&&s.all λb=>JU b||isDigit b
def fE (t:Tok) (x:aK):Bool:=(decide (t.kind=2)||decide (t.kind=4))&&decide (t.text=x)
def ue (lv:Int) (t:Tok):Nat->Int->Int
 |0,_=>0
 |k+1,op=>if fE t (rF op)&&decide (lv<=nT op)then op else ue lv t k (op+1)
def wN (t:Tok):Nat->Int->Int
 |0,_=>0
 |k+1,op=>if fE t (rF op)then op else wN t k (op+1)
mutual
def ZE:Nat->List Tok->Option (LE×List Tok)
 |0,_=>none
 |k+1,ts=>match ts with
  | []=>none
  |t::r=>
   if wN t 3 17≠0 then(ZE k r).map λp=>(.mk 3 (wN t 3 17) 0 [] [p.1],p.2)
   else if fE t [40]then match J5 k 1 r with
    |some (e,u::r')=>if fE u [41]then some (e,r')else none
    |_=>none
   else if fE t [114,101,97,100]then match r with
    |a::b::r'=>if fE a [40]&&fE b [41]then some (.mk 7 0 0 [] [],r')else none
    |_=>none
   else if t.kind=3 then some (.mk 1 0 t.n [] [],r)
   else if t.kind=1 then ai8 k t.text r
   else none
def ai8:Nat->aK->List Tok->Option (LE×List Tok)
 |0,_,_=>none
 |k+1,nm,ts=>match ts with
  | []=>none
  |t::r=>
   if fE t [40]then(ajA k r).map λp=>(.mk 5 0 0 nm p.1,p.2)
   else if fE t [91]then match J5 k 1 r with
    |some (e,u::r')=>if fE u [93]then some (.mk 6 0 0 nm [e],r')else none
    |_=>none
   else some (.mk 2 0 0 nm [],ts)
def J5:Nat->Int->List Tok->Option (LE×List Tok)
 |0,_,_=>none
 |k+1,lv,ts=>match ZE k ts with
  |some (e,r)=>ZW k lv e r
  |none=>none
def ZW:Nat->Int->LE->List Tok->Option (LE×List Tok)
 |0,_,_,_=>none
 |k+1,lv,e,ts=>match ts with
  | []=>none
  |t::r=>
   if ue lv t 16 1=0 then some (e,ts)
   else match J5 k (nT (ue lv t 16 1)+1) r with
    |some (f,r')=>ZW k lv (.mk 4 (ue lv t 16 1) 0 [] [e,f]) r'
    |none=>none
def ajA:Nat->List Tok->Option (List LE×List Tok)
 |0,_=>none
 |k+1,ts=>match ts with
  | []=>none
  |t::r=>if fE t [41]then some ([],r)else match J5 k 1 ts with
   |some (e,r')=>ZX k [e] r'
   |none=>none
def ZX:Nat->List LE->List Tok->Option (List LE×List Tok)
 |0,_,_=>none
 |k+1,l,ts=>match ts with
  | []=>none
  |t::r=>
   if fE t [44]then match J5 k 1 r with
    |some (e,r')=>ZX k (l++ [e]) r'
    |none=>none
   else if fE t [41]then some (l,r)else none
end
end
section
open Go.RowKit Go.Shelf
attribute [local go_sem] Oper.semAt_some
abbrev S (l:aK):Value:= .string ⟨l.toArray⟩
def xQ (op:Int):Nat:=if op=1 then 145 else if op=2 then 146 else if op=3 then 147 else if op=4 then 148 else if op=5 then 149 else if op=6 then 150 else if op=7 then 151 else if op=8 then 152
 else if op=9 then 153 else if op=10 then 154 else if op=11 then 155 else if op=12 then 157 else if op=13 then 158 else if op=14 then 159 else if op=15 then 160 else if op=16 then 161 else 0
def wL (op:Int):Nat:=if op=17 then 162 else if op=18 then 163 else if op=19 then 164 else 0
def rL (n:Nat):Value:=if n=0 then .nilFunc else .func (.func n) #[] #[]
def wM (op:Int):Value:= .agg #[S (rF op),I (nT op),rL (xQ op),rL (wL op)]
theorem NG (op:Int) (w:World):CR 105 #[I op] w (wM op):=by
 have hcs:op=1\/op=2\/op=3\/op=4\/op=5\/op=6\/op=7\/op=8\/op=9\/op=10\/op=11\/op=12\/op=13\/op=14\/op=15\/op=16\/op=17\/op=18\/op=19\/(op<1\/19<op):=aG;rcases hcs with rfl|rfl|rfl|rfl|rfl|rfl|rfl|rfl|rfl|rfl|rfl|rfl|rfl|rfl|rfl|rfl|rfl|rfl|rfl|h
 case' inr.inr.inr.inr.inr.inr.inr.inr.inr.inr.inr.inr.inr.inr.inr.inr.inr.inr.inr=>
  have h1:(op==1)=false:=bD;have h2:(op==2)=false:=bD;have h3:(op==3)=false:=bD;have h4:(op==4)=false:=bD;have h5:(op==5)=false:=bD;have h6:(op==6)=false:=bD;have h7:(op==7)=false:=bD;have h8:(op==8)=false:=bD;have h9:(op==9)=false:=bD;have h10:(op==10)=false:=bD;have h11:(op==11)=false:=bD;have h12:(op==12)=false:=bD;have UL:(op==13)=false:=bD;have Mg:(op==14)=false:=bD;have UM:(op==15)=false:=bD;have Mh:(op==16)=false:=bD;have UN:(op==17)=false:=bD;have F9:(op==18)=false:=bD;have h19:(op==19)=false:=bD;have hv:wM op= .agg #[S [],I 0, .nilFunc, .nilFunc]:=by
   unfold wM rF nT xQ wL rL;simp only[beq_eq_false_iff_ne]at h1 h2 h3 h4 h5 h6 h7 h8 h9 h10 h11 h12 UL Mg UM Mh UN F9 h19;simp [h1,h2,h3,h4,h5,h6,h7,h8,h9,h10,h11,h12,UL,Mg,UM,Mh,UN,F9,h19];omega
  have HV:=aF hv;clear hv h
 all_goals
  go_enter Tryz.func105,Tryz.ntmps105;go_wp2;refine bodyPost_ret (results_cell_row rfl _ _ w 160 _ (0,0) _ rfl hn0 Tryz.underlying160 rfl aL) rfl ?_;exact⟨by first|rfl|rw[HV.out],cm _ _⟩
abbrev R32 (r:Int):Value:= .int .i32 r
def oM (r:Int):Bool:=decide (r=95)||(decide (97<=r)&&decide (r<=122))||(decide (65<=r)&&decide (r<=90))
def mO (r:Int):Bool:=decide (48<=r)&&decide (r<=57)
def lY (r:Int):Bool:=decide (r=32)||decide (r=9)||decide (r=10)||decide (r=13)
theorem G_ (b:UInt8):JU b=oM b.toNat:=by
 have h:(b==95)=decide ((b.toNat:Int)=95):=by
  have:b=95↔(b.toNat:Int)=95:=by
   rw[<-UInt8.toNat_inj];simp;omega
  by_cases hb:b=95
  ·rw[decide_eq_true (this.1 hb)];simpa using hb
  ·rw[decide_eq_false (λe=>hb (this.2 e))];simpa using hb
 unfold JU oM;rw[h]
 congr 1
 ·congr 1
  congr 1<;>(apply decide_eq_decide.2;omega)
 ·congr 1<;>(apply decide_eq_decide.2;omega)
theorem Nz (b:UInt8):isDigit b=mO b.toNat:=by
 unfold isDigit mO
 congr 1<;>(apply decide_eq_decide.2;omega)
def Oa (k:Nat) (p:Int->Bool):Prop:=∀(r:Int) (w:World),0<=r->r<128->Calls Tryz.prog k #[R32 r] w λe w'=>e= .returned (.bool (p r))/\w=w'
theorem Dx:Oa 170 oM:=by
 intro r w h0 h1;go_enter Tryz.func170,Tryz.ntmps170;go_wp2
 all_goals
  go_ret;refine⟨congrArg (λb=>Ending.returned (Value.bool b)) ?_,rfl⟩;rw[Bool.eq_iff_iff];simp [oM]
  try omega
theorem BZ:Oa 172 mO:=by
 intro r w h0 h1;go_enter Tryz.func172,Tryz.ntmps172;go_wp2
 all_goals
  go_ret;refine⟨congrArg (λb=>Ending.returned (Value.bool b)) ?_,rfl⟩;rw[Bool.eq_iff_iff];simp [mO]
  try omega
theorem NM:Oa 166 lY:=by
 intro r w h0 h1;go_enter Tryz.func166,Tryz.ntmps166;go_wp2
 all_goals
  go_ret;refine⟨congrArg (λb=>Ending.returned (Value.bool b)) ?_,rfl⟩;rw[Bool.eq_iff_iff];simp [lY]
  try omega
def mQ (r:Int):Bool:=oM r||mO r
theorem NN:Oa 198 mQ:=by
 intro r w h0 h1;cases hl:oM r
 all_goals
  have HL:=aF hl;clear hl;go_enter Tryz.func198,Tryz.ntmps198;go_wp2_with (first|(go_at_call 170;refine(Dx r w h0 h1).mono ?_;rintro e w1⟨rfl,rfl⟩;rw[HL.out])|(go_at_call 172;refine(BZ r w h0 h1).mono ?_;rintro e w1⟨rfl,rfl⟩))
  go_ret;refine⟨?_,rfl⟩;unfold mQ;rw[HL.out];rfl
def gH (p:Int->Bool) (l:aK):Nat:=(l.takeWhile λb=>p b.toNat).length
theorem NP {p:Int->Bool}:∀{l:aK} {k:Nat} {b:UInt8},(∀(j:Nat) (c:UInt8),j<k->l[j]? =some c->p c.toNat=true)->l[k]? =some b->p b.toNat=false->gH p l=k
 | [],k,b,_,hk,_=>by simp at hk
 |x::l,0,b,_,hk,hb=>by
  simp at hk;subst hk
  simp [gH,hb]
 |x::l,k+1,b,h,hk,hb=>by
  have hx:=h 0 x aG aH
  have:=NP (l:=l) (k:=k) (λj c hj hc=>h (j+1) c aG (by simpa using hc)) (by simpa using hk) hb
  unfold gH at this|-
  rw[List.takeWhile_cons,hx]
  simpa using this
theorem NX {p:Int->Bool}:∀{l:aK},(∀(j:Nat) (c:UInt8),l[j]? =some c->p c.toNat=true)->gH p l=l.length
 | [],_=>rfl
 |x::l,h=>by
  have hx:=h 0 x aH
  have:=NX (l:=l) (λj c hc=>h (j+1) c (by simpa using hc))
  unfold gH at this|-
  rw[List.takeWhile_cons,hx]
  simpa using this
def eH (l:aK):Prop:=∀b∈l,b.toNat<128
theorem aik (l:aK) (hl:eH l) (w:World):
  CR 165 #[S l, .func (.func 166) #[] #[]] w (I (gH lY l)):=by
 have HA:=aF hl;clear hl;go_enter Tryz.func165,Tryz.ntmps165;go_wp2;go_loopg [5] l.length (λgh v wr=>∃pos,gh+pos=l.length/\wr=w.iter ⟨l.toArray⟩ pos/\Hid (∀j c,j<pos->l[j]? =some c->lY c.toNat=true))
 case atStart=>exact⟨0,rfl,rfl,aF (λj c h=>by omega)⟩
 case round=>
  obtain⟨pos,hg,rfl,HP⟩:=hrel;by_cases hlt:pos<l.length
  ·have hsz:pos<(⟨l.toArray⟩:ByteArray).size:=hlt;have⟨b,hb⟩:=xq (l[pos]);have hbl:b.toNat<128:=HA b (by rw[hb];exact ak hlt);have hbb:((⟨l.toArray⟩:ByteArray)[pos]'hsz)=b:=by rw[hb];rfl
   have hnx:∀ty,(Instr.next (.pointer (some (w,0))) true ty).run Tryz.prog (w.iter ⟨l.toArray⟩ pos)=_:=λty=>run_next_ascii w ⟨l.toArray⟩ pos ty hsz (by rw[hbb];exact hbl);rw[hbb]at hnx;have HB:=aF (show l[pos]? =some b by rw[hb];exact ah hlt);have gD:=aF hlt;clear hb hbb;go_upto_region 4 with(fail)
   cases hp:lY b.toNat
   ·have hr:gH lY l=pos:=NP HP.out HB hp;have HR:=aF hr;have nr:=aF hp;clear hp hr;go_wp2_with (first|(go_at_fn 166;refine(NM _ _ aG aG).mono ?_;rintro e w1⟨rfl,rfl⟩;rw[nr.out])|(go_at_call 166;refine(NM _ _ aG aG).mono ?_;rintro e w1⟨rfl,rfl⟩;rw[nr.out]))
    go_ret;exact⟨by rw[HR.out];rfl,cm _ _⟩
   ·have nr:=aF hp;clear hp;go_wp2_with (first|(go_at_fn 166;refine(NM _ _ aG aG).mono ?_;rintro e w1⟨rfl,rfl⟩;rw[nr.out])|(go_at_call 166;refine(NM _ _ aG aG).mono ?_;rintro e w1⟨rfl,rfl⟩;rw[nr.out]))
    go_roundg (l.length - (pos+1))
    case measure=>have:=gD.out;omega
    case rel=>
     refine⟨pos+1,by have:=gD.out;omega,rfl,aF (λj c hj hc=> ?_)⟩;by_cases Gy:j<pos
     ·exact HP.out j c Gy hc
     ·obtain rfl:j=pos:=aG;rw[HB.out]at hc;cases hc;exact nr.out
  ·have hnx:∀ty,(Instr.next (.pointer (some (w,0))) true ty).run Tryz.prog (w.iter ⟨l.toArray⟩ pos)=_:=λty=>run_next_end w ⟨l.toArray⟩ pos ty hlt;have HR:Hid (gH lY l=l.length):=NX (λj c hc=>HP.out j c (iZ ((aj hc).1)) hc);go_wp2;go_ret;exact⟨by rw[HR.out];rfl,cm _ _⟩
theorem aim (l:aK) (hl:eH l) (w:World):
  CR 165 #[S l, .func (.func 172) #[] #[]] w (I (gH mO l)):=by
 have HA:=aF hl;clear hl;go_enter Tryz.func165,Tryz.ntmps165;go_wp2;go_loopg [5] l.length (λgh v wr=>∃pos,gh+pos=l.length/\wr=w.iter ⟨l.toArray⟩ pos/\Hid (∀j c,j<pos->l[j]? =some c->mO c.toNat=true))
 case atStart=>exact⟨0,rfl,rfl,aF (λj c h=>by omega)⟩
 case round=>
  obtain⟨pos,hg,rfl,HP⟩:=hrel;by_cases hlt:pos<l.length
  ·have hsz:pos<(⟨l.toArray⟩:ByteArray).size:=hlt;have⟨b,hb⟩:=xq (l[pos]);have hbl:b.toNat<128:=HA b (by rw[hb];exact ak hlt);have hbb:((⟨l.toArray⟩:ByteArray)[pos]'hsz)=b:=by rw[hb];rfl
   have hnx:∀ty,(Instr.next (.pointer (some (w,0))) true ty).run Tryz.prog (w.iter ⟨l.toArray⟩ pos)=_:=λty=>run_next_ascii w ⟨l.toArray⟩ pos ty hsz (by rw[hbb];exact hbl);rw[hbb]at hnx;have HB:=aF (show l[pos]? =some b by rw[hb];exact ah hlt);have gD:=aF hlt;clear hb hbb;go_upto_region 4 with(fail)
   cases hp:mO b.toNat
   ·have hr:gH mO l=pos:=NP HP.out HB hp;have HR:=aF hr;have nr:=aF hp;clear hp hr;go_wp2_with (first|(go_at_fn 172;refine(BZ _ _ aG aG).mono ?_;rintro e w1⟨rfl,rfl⟩;rw[nr.out])|(go_at_call 172;refine(BZ _ _ aG aG).mono ?_;rintro e w1⟨rfl,rfl⟩;rw[nr.out]))
    go_ret;exact⟨by rw[HR.out];rfl,cm _ _⟩
   ·have nr:=aF hp;clear hp;go_wp2_with (first|(go_at_fn 172;refine(BZ _ _ aG aG).mono ?_;rintro e w1⟨rfl,rfl⟩;rw[nr.out])|(go_at_call 172;refine(BZ _ _ aG aG).mono ?_;rintro e w1⟨rfl,rfl⟩;rw[nr.out]))
    go_roundg (l.length - (pos+1))
    case measure=>have:=gD.out;omega
    case rel=>
     refine⟨pos+1,by have:=gD.out;omega,rfl,aF (λj c hj hc=> ?_)⟩;by_cases Gy:j<pos
     ·exact HP.out j c Gy hc
     ·obtain rfl:j=pos:=aG;rw[HB.out]at hc;cases hc;exact nr.out
  ·have hnx:∀ty,(Instr.next (.pointer (some (w,0))) true ty).run Tryz.prog (w.iter ⟨l.toArray⟩ pos)=_:=λty=>run_next_end w ⟨l.toArray⟩ pos ty hlt;have HR:Hid (gH mO l=l.length):=NX (λj c hc=>HP.out j c (iZ ((aj hc).1)) hc);go_wp2;go_ret;exact⟨by rw[HR.out];rfl,cm _ _⟩
theorem ah_ (l:aK) (hl:eH l) (w:World):
  CR 165 #[S l, .func (.func 198) #[] #[]] w (I (gH mQ l)):=by
 have HA:=aF hl;clear hl;go_enter Tryz.func165,Tryz.ntmps165;go_wp2;go_loopg [5] l.length (λgh v wr=>∃pos,gh+pos=l.length/\wr=w.iter ⟨l.toArray⟩ pos/\Hid (∀j c,j<pos->l[j]? =some c->mQ c.toNat=true))
 case atStart=>exact⟨0,rfl,rfl,aF (λj c h=>by omega)⟩
 case round=>
  obtain⟨pos,hg,rfl,HP⟩:=hrel;by_cases hlt:pos<l.length
  ·have hsz:pos<(⟨l.toArray⟩:ByteArray).size:=hlt;have⟨b,hb⟩:=xq (l[pos]);have hbl:b.toNat<128:=HA b (by rw[hb];exact ak hlt);have hbb:((⟨l.toArray⟩:ByteArray)[pos]'hsz)=b:=by rw[hb];rfl
   have hnx:∀ty,(Instr.next (.pointer (some (w,0))) true ty).run Tryz.prog (w.iter ⟨l.toArray⟩ pos)=_:=λty=>run_next_ascii w ⟨l.toArray⟩ pos ty hsz (by rw[hbb];exact hbl);rw[hbb]at hnx;have HB:=aF (show l[pos]? =some b by rw[hb];exact ah hlt);have gD:=aF hlt;clear hb hbb;go_upto_region 4 with(fail)
   cases hp:mQ b.toNat
   ·have hr:gH mQ l=pos:=NP HP.out HB hp;have HR:=aF hr;have nr:=aF hp;clear hp hr;go_wp2_with (first|(go_at_fn 198;refine(NN _ _ aG aG).mono ?_;rintro e w1⟨rfl,rfl⟩;rw[nr.out])|(go_at_call 198;refine(NN _ _ aG aG).mono ?_;rintro e w1⟨rfl,rfl⟩;rw[nr.out]))
    go_ret;exact⟨by rw[HR.out];rfl,cm _ _⟩
   ·have nr:=aF hp;clear hp;go_wp2_with (first|(go_at_fn 198;refine(NN _ _ aG aG).mono ?_;rintro e w1⟨rfl,rfl⟩;rw[nr.out])|(go_at_call 198;refine(NN _ _ aG aG).mono ?_;rintro e w1⟨rfl,rfl⟩;rw[nr.out]))
    go_roundg (l.length - (pos+1))
    case measure=>have:=gD.out;omega
    case rel=>
     refine⟨pos+1,by have:=gD.out;omega,rfl,aF (λj c hj hc=> ?_)⟩;by_cases Gy:j<pos
     ·exact HP.out j c Gy hc
     ·obtain rfl:j=pos:=aG;rw[HB.out]at hc;cases hc;exact nr.out
  ·have hnx:∀ty,(Instr.next (.pointer (some (w,0))) true ty).run Tryz.prog (w.iter ⟨l.toArray⟩ pos)=_:=λty=>run_next_end w ⟨l.toArray⟩ pos ty hlt;have HR:Hid (gH mQ l=l.length):=NX (λj c hc=>HP.out j c (iZ ((aj hc).1)) hc);go_wp2;go_ret;exact⟨by rw[HR.out];rfl,cm _ _⟩
theorem JQ (l:aK) (w:World):Calls Tryz.prog 177 #[S l] w λe w'=>e= .returned (.bool (isWord l))/\w=w':=by
 by_cases hw:l∈E_
 ·simp only[E_,List.mem_cons,List.not_mem_nil,or_false]at hw;rcases hw with rfl|rfl|rfl|rfl|rfl|rfl|rfl|rfl|rfl|rfl
  all_goals
   go_enter Tryz.func177,Tryz.ntmps177;go_wp2;go_ret;exact⟨rfl,rfl⟩
 ·have hf:isWord l=false:=by simpa [isWord]using hw
  have h0:(l== [105,110,116])=false:=bu (λe=>hw (by rw[e];decide));have h1:(l== [105,102])=false:=bu (λe=>hw (by rw[e];decide));have h2:(l== [101,108,115,101])=false:=bu (λe=>hw (by rw[e];decide));have h3:(l== [119,104,105,108,101])=false:=bu (λe=>hw (by rw[e];decide));have h4:(l== [98,114,101,97,107])=false:=bu (λe=>hw (by rw[e];decide));have h5:(l== [99,111,110,116,105,110,117,101])=false:=bu (λe=>hw (by rw[e];decide));have h6:(l== [114,101,116,117,114,110])=false:=bu (λe=>hw (by rw[e];decide));have h7:(l== [112,114,105,110,116])=false:=bu (λe=>hw (by rw[e];decide));have h8:(l== [114,101,97,100])=false:=bu (λe=>hw (by rw[e];decide));have h9:(l== [116,114,97,112])=false:=bu (λe=>hw (by rw[e];decide));have HF:=aF hf;clear hf hw;go_enter Tryz.func177,Tryz.ntmps177;go_wp2;go_ret;exact⟨by rw[HF.out];rfl,rfl⟩
theorem Xn {l:aK} (h:isName l=true):l≠ []/\l.length<=20/\isWord l=false/\(∀b,l[0]? =some b->oM b.toNat=true)/\∀(j:Nat) (b:UInt8),l[j]? =some b->mQ b.toNat=true:=by
 unfold isName at h;simp only[Bool.and_eq_true,Bool.not_eq_true',decide_eq_true_eq,List.all_eq_true]at h;obtain⟨⟨⟨⟨h1,h2⟩,h3⟩,h4⟩,h5⟩:=h;refine⟨by intro e;subst e;simp at h1,h2,h3,λb hb=> ?_,λj b hj=> ?_⟩
 ·rw[List.head?_eq_getElem?,hb]at h4;simp at h4;rw[<-G_];exact h4
 ·have:=h5 b (List.mem_of_getElem? hj);unfold mQ;rw[<-G_,<-Nz];exact this
theorem YX (l:aK) (ha:eH l) (hn:isName l=true) (w:World):CR 117 #[S l] w (.bool true):=by
 obtain⟨h1,h2,h3,h4,h5⟩:=Xn hn;have HA:=aF ha;have H3:=aF h3;have H4:=aF h4;have H5:=aF h5;have hnil:(l== [])=false:=bu h1;have hlen: ¬(l.length:Int)>20:=aG;clear ha hn h1 h3 h4 h5;go_enter Tryz.func117,Tryz.ntmps117;go_wp2_with (go_at_call 177;refine(JQ l w).mono ?_;rintro e w1⟨rfl,rfl⟩;rw[H3.out])
 go_loopg [3] l.length (λgh v wr=>∃pos,gh+pos=l.length/\wr=w.iter ⟨l.toArray⟩ pos)
 case atStart=>exact⟨0,rfl,rfl⟩
 case round=>
  obtain⟨pos,hg,rfl⟩:=hrel;by_cases hlt:pos<l.length
  ·have hsz:pos<(⟨l.toArray⟩:ByteArray).size:=hlt;have⟨b,hb⟩:=xq (l[pos]);have hbl:b.toNat<128:=HA b (by rw[hb];exact ak hlt);have hbb:((⟨l.toArray⟩:ByteArray)[pos]'hsz)=b:=by rw[hb];rfl
   have hnx:∀ty,(Instr.next (.pointer (some (w,0))) true ty).run Tryz.prog (w.iter ⟨l.toArray⟩ pos)=_:=λty=>run_next_ascii w ⟨l.toArray⟩ pos ty hsz (by rw[hbb];exact hbl);rw[hbb]at hnx;have jz:l[pos]? =some b:=by rw[hb];exact ah hlt
   have bQ:=H5 pos b jz;have gD:=aF hlt;cases hlet:oM b.toNat
   ·have hpos:0<pos:=by
     rcases Nat.eq_zero_or_pos pos with e|e
     ·subst e;have:=H4 b jz;rw[hlet]at this;cases this
     ·exact e
    have hdig:mO b.toNat=true:=by
     unfold mQ at bQ;rw[hlet]at bQ;simpa using bQ
    have Ms:((pos:Int)==0)=false:=bD;have HL:=aF hlet;have HD:=aF hdig;clear hb hbb jz bQ hlet hdig;go_wp2_with (first|(go_at_call 170;refine(Dx _ _ aG aG).mono ?_;rintro e w1⟨rfl,rfl⟩;rw[HL.out])|(go_at_call 172;refine(BZ _ _ aG aG).mono ?_;rintro e w1⟨rfl,rfl⟩;rw[HD.out]))
    go_roundg (l.length - (pos+1))
    case measure=>have:=gD.out;omega
    case rel=>exact⟨pos+1,by have:=gD.out;omega,rfl⟩
   ·have HL:=aF hlet;clear hb hbb jz bQ hlet;go_wp2_with (go_at_call 170;refine(Dx _ _ aG aG).mono ?_;rintro e w1⟨rfl,rfl⟩;rw[HL.out])
    go_roundg (l.length - (pos+1))
    case measure=>have:=gD.out;omega
    case rel=>exact⟨pos+1,by have:=gD.out;omega,rfl⟩
  ·have hnx:∀ty,(Instr.next (.pointer (some (w,0))) true ty).run Tryz.prog (w.iter ⟨l.toArray⟩ pos)=_:=λty=>run_next_end w ⟨l.toArray⟩ pos ty hlt;go_wp2;go_ret;exact⟨rfl,cm _ _⟩
abbrev Ua (t:Tok):Value:= .agg #[I t.kind,S t.text,I t.n,I t.line]
def Og (l:aK):Option aK:=if l.take 2∈tH then some (l.take 2)else if l.take 1∈tH then some (l.take 1)else none
theorem BW {P:Program} {fn:Func} {p u:Tmp} {ty:TypeId} (h:fn.results= #[.cell p ty, .tmp u]) (tmps:Array Value) (w:World) (g:Nat) (t:TypeId) (cs:Array Value) (fr:Nat×Nat) (d:TypeDesc)
  (hp:tmps.getD p undef= .pointer (some (g,0))) (hg:w.heap[g]? =some (.cells cs t fr))
  (hu:P.underlying ty=some d) (hd:(match d with| .struct _| .array _ _=>true|_=>false)=true) (hi:(P.info? ty).map (·.size)=some cs.size):
  (results fn tmps).run P w= .ok (.tuple #[.agg cs,tmps.getD u undef]) w:=by
 have hp':tmps[p]?.getD undef= .pointer (some (g,0)):=by simpa using hp
 simp [results,h,hp',asAddr,run_loadVar_row w g t ty cs fr d hg hu hd hi]
def DF (t:Tok) (w:World) (e:Ending) (w':World):Prop:=e= .returned (.tuple #[Ua t, .bool true])/\Below w.heap.size w w'
theorem NU (l:aK) (n:Nat):(⟨l.toArray⟩:ByteArray).extract 0 n=⟨(l.take n).toArray⟩:=by
 rw[Lib.extract_eq];simp
theorem Y4 (l:aK) (n:Nat):(⟨l.toArray⟩:ByteArray).extract n l.length=⟨(l.drop n).toArray⟩:=by
 rw[Lib.extract_eq];simp only[];rw[List.take_of_length_le aH]
theorem XG {l x:aK} (h:Og l=some x) (hl:l≠ []):(2<=l.length/\l.take 2∈tH/\x=l.take 2)\/(2<=l.length/\l.take 2∉tH/\l.take 1∈tH/\x=l.take 1)\/(l.length=1/\l.take 1∈tH/\x=l.take 1):=by
 unfold Og at h;have hp:0<l.length:=List.length_pos_iff.2 hl;by_cases h1:2<=l.length
 ·split at h
  ·next h2=>cases h;exact .inl ⟨h1,h2,rfl⟩
  ·next h2=>
   split at h
   ·next h3=>cases h;exact .inr (.inl ⟨h1,h2,h3,rfl⟩)
   ·cases h
 ·have nY:l.length=1:=aG;have e2:l.take 2=l:=List.take_of_length_le aG;have e1:l.take 1=l:=List.take_of_length_le aG;rw[e1,e2]at h;split at h
  ·next h2=>cases h;exact .inr (.inr ⟨nY,by rw[e1];exact h2,e1.symm⟩)
  ·cases h
theorem ahM (l x:aK) (hl:l≠ []) (hx:Og l=some x) (w:World):Calls Tryz.prog 175 #[S l] w (DF ⟨4,x,0,0⟩ w):=by
 have hc:=XG hx hl;have HC:=aF hc;have hpos:0<l.length:=List.length_pos_iff.2 hl;have⟨n0,hn0⟩:=xq (min 2 l.length);have gV:1<=n0:=aG;have eD:n0<=2:=aG;have hst:n0<=l.length/\((l.take n0∈tH/\x=l.take n0)\/(n0=2/\l.take 2∉tH/\l.take 1∈tH/\x=l.take 1)):=by
  refine⟨aG, ?_⟩;rcases hc with⟨h1,h2,h3⟩|⟨h1,h2,h3,h4⟩|⟨h1,h2,h3⟩
  ·obtain rfl:n0=2:=aG;exact .inl ⟨h2,h3⟩
  ·obtain rfl:n0=2:=aG;exact .inr ⟨rfl,h2,h3,h4⟩
  ·obtain rfl:n0=1:=aG;exact .inl ⟨h2,h3⟩
 obtain⟨jm,hst⟩:=hst;have HST:=aF hst;have GU:=aF hn0;clear hc hn0 hx hl hst;go_enter Tryz.func175,Tryz.ntmps175;go_upto_region 1 with(fail)
 go_cut [4] (λs4 wc=>s4=I n0/\wc=w.alloc (.cells #[I 0,S [],I 0,I 0] 119))
 case first=>
  rcases(by omega:(l.length:Int)<2\/2<=(l.length:Int))with h|h
  all_goals
   go_wp2;go_meet
   exact⟨by first|(congr 1;have:=GU.out;omega),rfl⟩
 case rest=>
 obtain⟨rfl,rfl⟩:=hcut;go_wp2;go_loopg [4] n0 (λgh v wr=>∃n:Nat,v=I n/\gh=n/\1<=n/\n<=2/\n<=l.length/\wr=w.alloc (.cells #[I 0,S [],I 0,I 0] 119)/\Hid ((l.take n∈tH/\x=l.take n)\/(n=2/\l.take 2∉tH/\l.take 1∈tH/\x=l.take 1)))
 case atStart=>exact⟨n0,rfl,rfl,gV,eD,jm,rfl,HST⟩
 case round=>
  obtain⟨n,rfl,hg,gV,eD,hnl,rfl,HX⟩:=hrel;have hnz:(0:Int)<(n:Int):=aG;have Sv:(n:Int)<=(l.length:Int):=aG;have⟨m,hm⟩:=xq (l.take n);have hmv:(⟨List.toArray l⟩:ByteArray).extract 0 n=⟨m.toArray⟩:=by rw[hm];exact NU l n
  have HM:=aF hm;by_cases hmem:m∈tH
  ·have lJ:x=m:=by
    rcases HX.out with⟨_,h⟩|⟨h1,h2,_⟩
    ·rw[h,HM.out]
    ·subst h1;rw[HM.out]at hmem;exact absurd hmem h2
   have HXM:=aF lJ;clear lJ hm HX HST GU;simp only[tH,List.mem_cons,List.not_mem_nil,or_false]at hmem;rcases hmem with rfl|rfl|rfl|rfl|rfl|rfl|rfl|rfl|rfl|rfl|rfl|rfl|rfl|rfl|rfl|rfl|rfl|rfl|rfl|rfl|rfl|rfl|rfl|rfl|rfl|rfl|rfl
   all_goals
    as_aux_lemma=>
    go_wp2;refine bodyPost_ret (BW rfl _ _ w 119 _ (0,0) _ rfl hn0 Tryz.underlying119 rfl aL) rfl ?_;exact⟨by rw[HXM.out];rfl,cm _ _⟩
  ·obtain⟨alB,alC,aby,abz⟩:n=2/\l.take 2∉tH/\l.take 1∈tH/\x=l.take 1:=by
    rcases HX.out with⟨h,_⟩|h
    ·rw[<-HM.out]at h;exact absurd h hmem
    ·exact h
   have H34:=aF (And.intro aby abz);have h0:(m== [61,61])=false:=bu (λe=>hmem (by rw[e];decide));have h1:(m== [33,61])=false:=bu (λe=>hmem (by rw[e];decide));have h2:(m== [60,61])=false:=bu (λe=>hmem (by rw[e];decide));have h3:(m== [62,61])=false:=bu (λe=>hmem (by rw[e];decide));have h4:(m== [60,60])=false:=bu (λe=>hmem (by rw[e];decide));have h5:(m== [62,62])=false:=bu (λe=>hmem (by rw[e];decide));have h6:(m== [40])=false:=bu (λe=>hmem (by rw[e];decide));have h7:(m== [41])=false:=bu (λe=>hmem (by rw[e];decide));have h8:(m== [123])=false:=bu (λe=>hmem (by rw[e];decide));have h9:(m== [125])=false:=bu (λe=>hmem (by rw[e];decide));have h10:(m== [91])=false:=bu (λe=>hmem (by rw[e];decide));have h11:(m== [93])=false:=bu (λe=>hmem (by rw[e];decide));have h12:(m== [44])=false:=bu (λe=>hmem (by rw[e];decide));have UL:(m== [59])=false:=bu (λe=>hmem (by rw[e];decide));have Mg:(m== [61])=false:=bu (λe=>hmem (by rw[e];decide));have UM:(m== [124])=false:=bu (λe=>hmem (by rw[e];decide));have Mh:(m== [94])=false:=bu (λe=>hmem (by rw[e];decide));have UN:(m== [38])=false:=bu (λe=>hmem (by rw[e];decide));have F9:(m== [43])=false:=bu (λe=>hmem (by rw[e];decide));have h19:(m== [45])=false:=bu (λe=>hmem (by rw[e];decide));have h20:(m== [42])=false:=bu (λe=>hmem (by rw[e];decide));have h21:(m== [47])=false:=bu (λe=>hmem (by rw[e];decide));have h22:(m== [37])=false:=bu (λe=>hmem (by rw[e];decide));have h23:(m== [33])=false:=bu (λe=>hmem (by rw[e];decide));have h24:(m== [126])=false:=bu (λe=>hmem (by rw[e];decide));have h25:(m== [60])=false:=bu (λe=>hmem (by rw[e];decide));have h26:(m== [62])=false:=bu (λe=>hmem (by rw[e];decide));subst alB;clear hmem alC aby abz hm;go_wp2;go_roundg 1
   case measure=>omega
   case rel=>exact⟨1,rfl,rfl,aG,aG,aG,rfl,aF (.inl H34)⟩
theorem JZ (p:Int->Bool) (l:aK):gH p l<=l.length:=by
 unfold gH;exact(List.takeWhile_prefix _).length_le
theorem eH.take {l:aK} (h:eH l) (n:Nat):eH (l.take n):=λb hb=>h b (List.mem_of_mem_take hb)
theorem eH.drop {l:aK} (h:eH l) (n:Nat):eH (l.drop n):=λb hb=>h b (List.mem_of_mem_drop hb)
theorem YW (l:aK) (ha:eH l) (x:aK) (hx:x=l.take (gH mQ l)) (k:Int) (hk:(k=2/\isWord x=true)\/(k=1/\isWord x=false/\isName x=true)) (w:World):
  Calls Tryz.prog 171 #[S l] w (DF ⟨k,x,0,0⟩ w):=by
 have pH:eH x:=by rw[hx];exact ha.take _
 have hnl:=JZ mQ l;have HA:=aF ha;have uZ:=aF pH;have hrun:∀W,CR 165 #[S l, .func (.func 198) #[] #[]] W (I (gH mQ l)):=λW=>ah_ l ha W;have⟨n,hn⟩:=xq (gH mQ l);rw[<-hn]at hrun hnl hx;have hmv:(⟨List.toArray l⟩:ByteArray).extract 0 n=⟨x.toArray⟩:=by rw[hx];exact NU l n
 have iI:=aF hrun;have Sv:(n:Int)<=(l.length:Int):=aG;clear ha pH hrun hn hx;rcases hk with⟨rfl,hw⟩|⟨rfl,hw,cJ⟩
 ·have HW:=aF hw;clear hw;go_enter Tryz.func171,Tryz.ntmps171;go_wp2_with (first|(go_at_call 165;refine(iI _).mono ?_;rintro e w1⟨rfl,hb1⟩;have hz1:=hb1.size;rw[World.size_alloc]at hz1;have hk1:=(hb1.block w aH).trans hn0;have aI:=aF ((cm w _).trans (hb1.mono aH));have pI:=aF hk1;clear hb1 hk1)|(go_at_call 177;refine(JQ x _).mono ?_;rintro e w2⟨rfl,rfl⟩;rw[HW.out])|(refine wpList_store_row rfl 119 (.tmp 2) (.tmp 12) rfl w.heap.size _ rfl rfl 119 _ pI.out aL fV sv0 ?_))
  refine bodyPost_ret (BW rfl _ _ w 119 _ (0,0) _ rfl (setRow_heap _ _ _ _ _ _ pI.out) Tryz.underlying119 rfl aL) rfl ?_;refine⟨rfl,aI.grown (row:=some w) ⟨rfl,rfl,rfl,aH,λi _ hi=>setRow_other _ _ _ _ (λe=>hi (by rw[e]))⟩ aI.size u_⟩
 ·have HW:=aF hw;have cv:=aF cJ;clear hw cJ;go_enter Tryz.func171,Tryz.ntmps171;go_wp2_with (first|(go_at_call 165;refine(iI _).mono ?_;rintro e w1⟨rfl,hb1⟩;have hz1:=hb1.size;rw[World.size_alloc]at hz1;have hk1:=(hb1.block w aH).trans hn0;have aI:=aF ((cm w _).trans (hb1.mono aH));have pI:=aF hk1;clear hb1 hk1)|(go_at_call 177;refine(JQ x _).mono ?_;rintro e w2⟨rfl,rfl⟩;rw[HW.out])|(go_at_call 117;refine aN (YX x uZ cv _) λw3 hb3=> ?_;have hk3:=(hb3.block w aG).trans pI.out;have gy:=aF hk3;have aW:=aF (aI.out.trans (hb3.mono aG));clear hk3)|(refine wpList_store_row rfl 119 (.tmp 2) (.tmp 14) rfl w.heap.size _ rfl rfl 119 _ gy.out aL fV sv0 ?_))
  refine bodyPost_ret (BW rfl _ _ w 119 _ (0,0) _ rfl (setRow_heap _ _ _ _ _ _ gy.out) Tryz.underlying119 rfl aL) rfl ?_;refine⟨rfl,aW.grown (row:=some w) ⟨rfl,rfl,rfl,aH,λi _ hi=>setRow_other _ _ _ _ (λe=>hi (by rw[e]))⟩ aW.size u_⟩
end
section
open Go.RowKit
def oQ (b:Bool):Int:=if b then 1 else 0
end
section
open Go.RowKit Go.Shelf
attribute [local go_sem] Oper.semAt_some
theorem B0 (b:Bool) (w:World):Calls Tryz.prog 156 #[.bool b] w λe w'=>e= .returned (I (oQ b))/\w'=w:=by
 cases b
 ·go_enter Tryz.func156,Tryz.ntmps156;go_wp2;go_ret;exact⟨rfl,rfl⟩
 ·go_enter Tryz.func156,Tryz.ntmps156;go_wp2;go_ret;exact⟨rfl,rfl⟩
theorem Z9 (b:Int):0<=bits .and .i64 b 63/\bits .and .i64 b 63<=63:=by
 have h:(BitVec.ofInt 64 b&&&BitVec.ofInt 64 63).toNat<=63:=by rw[BitVec.toNat_and];exact az Nat.and_le_right aQ
 have h2:bits .and .i64 b 63=IntKind.i64.wrap ((BitVec.ofInt 64 b&&&BitVec.ofInt 64 63).toNat:Int):=rfl;rw[h2,IntKind.wrap_i64];obtain⟨n,hn⟩:∃n,n=(BitVec.ofInt 64 b&&&BitVec.ofInt 64 63).toNat:=⟨_,rfl⟩;rw[<-hn]at h|-;omega
def CH (b:Int):Nat:=(bits .and .i64 b 63).toNat
theorem Zn (a b:Int) (w:World):(Op.shift .shl .i64 a .i64 (bits .and .i64 b 63)).run Tryz.prog w= .ok (I (wrap64 (a*2^CH b))) w:=by
 have h:=Z9 b;rw[shift_shl _ _ _ _ h.1 (by show _<=(64:Int);omega),Sem.run_pure,IntKind.wrap_i64];unfold wrap64 CH;rfl
theorem Zo (a b:Int) (w:World):(Op.shift .shr .i64 a .i64 (bits .and .i64 b 63)).run Tryz.prog w= .ok (I (a/2^CH b)) w:=by
 have h:=Z9 b;rw[shift_shr _ _ _ _ h.1 (by show _<=(64:Int);omega),Sem.run_pure];rfl
def CF (a b:Int):Int:=if b=0 then -1 else wrap64 (a.tdiv b)
def CG (a b:Int):Int:=if b=0 then a else a.tmod b
theorem ajJ (a b:Int) (w:World):Calls Tryz.prog 145 #[I a,I b] w λe w'=>e= .returned (I (wrap64 (a+b)))/\w'=w:=by
 go_enter Tryz.func145,Tryz.ntmps145;go_wp2;go_ret;exact⟨rfl,rfl⟩
theorem ajK (a b:Int) (w:World):Calls Tryz.prog 146 #[I a,I b] w λe w'=>e= .returned (I (wrap64 (a - b)))/\w'=w:=by
 go_enter Tryz.func146,Tryz.ntmps146;go_wp2;go_ret;exact⟨rfl,rfl⟩
theorem ajL (a b:Int) (w:World):Calls Tryz.prog 147 #[I a,I b] w λe w'=>e= .returned (I (wrap64 (a*b)))/\w'=w:=by
 go_enter Tryz.func147,Tryz.ntmps147;go_wp2;go_ret;exact⟨rfl,rfl⟩
theorem ajM (a b:Int) (w:World):Calls Tryz.prog 150 #[I a,I b] w λe w'=>e= .returned (I (bits .and .i64 a b))/\w'=w:=by
 go_enter Tryz.func150,Tryz.ntmps150;go_wp2;go_ret;exact⟨rfl,rfl⟩
theorem ajN (a b:Int) (w:World):Calls Tryz.prog 151 #[I a,I b] w λe w'=>e= .returned (I (bits .or .i64 a b))/\w'=w:=by
 go_enter Tryz.func151,Tryz.ntmps151;go_wp2;go_ret;exact⟨rfl,rfl⟩
theorem ajO (a b:Int) (w:World):Calls Tryz.prog 152 #[I a,I b] w λe w'=>e= .returned (I (bits .xor .i64 a b))/\w'=w:=by
 go_enter Tryz.func152,Tryz.ntmps152;go_wp2;go_ret;exact⟨rfl,rfl⟩
theorem ajP (a b:Int) (w:World):Calls Tryz.prog 153 #[I a,I b] w λe w'=>e= .returned (I (wrap64 (a*2^CH b)))/\w'=w:=by
 have hs:=Zn a b;go_enter Tryz.func153,Tryz.ntmps153;go_wp2;go_ret;exact⟨rfl,rfl⟩
theorem ajQ (a b:Int) (w:World):Calls Tryz.prog 154 #[I a,I b] w λe w'=>e= .returned (I (a/2^CH b))/\w'=w:=by
 have hs:=Zo a b;go_enter Tryz.func154,Tryz.ntmps154;go_wp2;go_ret;exact⟨rfl,rfl⟩
theorem ajR (a b:Int) (w:World):Calls Tryz.prog 155 #[I a,I b] w λe w'=>e= .returned (I (oQ (decide (a<b))))/\w'=w:=by
 go_enter Tryz.func155,Tryz.ntmps155;go_wp2_with (go_at_call 156;refine(B0 _ _).mono ?_;rintro e' w1⟨rfl,rfl⟩)
 go_ret;exact⟨rfl,rfl⟩
theorem ajS (a b:Int) (w:World):Calls Tryz.prog 157 #[I a,I b] w λe w'=>e= .returned (I (oQ (decide (a<=b))))/\w'=w:=by
 go_enter Tryz.func157,Tryz.ntmps157;go_wp2_with (go_at_call 156;refine(B0 _ _).mono ?_;rintro e' w1⟨rfl,rfl⟩)
 go_ret;exact⟨rfl,rfl⟩
theorem ajT (a b:Int) (w:World):Calls Tryz.prog 158 #[I a,I b] w λe w'=>e= .returned (I (oQ (decide (b<a))))/\w'=w:=by
 go_enter Tryz.func158,Tryz.ntmps158;go_wp2_with (go_at_call 156;refine(B0 _ _).mono ?_;rintro e' w1⟨rfl,rfl⟩)
 go_ret;exact⟨rfl,rfl⟩
theorem ajU (a b:Int) (w:World):Calls Tryz.prog 159 #[I a,I b] w λe w'=>e= .returned (I (oQ (decide (b<=a))))/\w'=w:=by
 go_enter Tryz.func159,Tryz.ntmps159;go_wp2_with (go_at_call 156;refine(B0 _ _).mono ?_;rintro e' w1⟨rfl,rfl⟩)
 go_ret;exact⟨rfl,rfl⟩
theorem ajV (a b:Int) (w:World):Calls Tryz.prog 160 #[I a,I b] w λe w'=>e= .returned (I (oQ (a==b)))/\w'=w:=by
 go_enter Tryz.func160,Tryz.ntmps160;go_wp2_with (go_at_call 156;refine(B0 _ _).mono ?_;rintro e' w1⟨rfl,rfl⟩)
 go_ret;exact⟨rfl,rfl⟩
theorem ajW (a b:Int) (w:World):Calls Tryz.prog 161 #[I a,I b] w λe w'=>e= .returned (I (oQ (a !=b)))/\w'=w:=by
 go_enter Tryz.func161,Tryz.ntmps161;go_wp2_with (go_at_call 156;refine(B0 _ _).mono ?_;rintro e' w1⟨rfl,rfl⟩)
 go_ret;exact⟨rfl,rfl⟩
theorem ajX (a b:Int) (w:World):Calls Tryz.prog 148 #[I a,I b] w λe w'=>e= .returned (I (CF a b))/\w'=w:=by
 by_cases hb:b=0
 ·have hv:CF a b= -1:=by unfold CF;rw[if_pos hb]
  rw[hv];subst hb;go_enter Tryz.func148,Tryz.ntmps148;go_wp2;go_ret;exact⟨rfl,rfl⟩
 ·have hv:CF a b=wrap64 (a.tdiv b):=by unfold CF;rw[if_neg hb]
  rw[hv];have hb2:(b==0)=false:=bu hb;go_enter Tryz.func148,Tryz.ntmps148;go_wp2;go_ret;exact⟨rfl,rfl⟩
theorem ajY (a b:Int) (w:World):Calls Tryz.prog 149 #[I a,I b] w λe w'=>e= .returned (I (CG a b))/\w'=w:=by
 by_cases hb:b=0
 ·have hv:CG a b=a:=by unfold CG;rw[if_pos hb]
  rw[hv];subst hb;go_enter Tryz.func149,Tryz.ntmps149;go_wp2;go_ret;exact⟨rfl,rfl⟩
 ·have hv:CG a b=a.tmod b:=by unfold CG;rw[if_neg hb]
  rw[hv];have hb2:(b==0)=false:=bu hb;go_enter Tryz.func149,Tryz.ntmps149;go_wp2;go_ret;exact⟨rfl,rfl⟩
theorem ajZ (a:Int) (w:World):Calls Tryz.prog 162 #[I a] w λe w'=>e= .returned (I (wrap64 (-a)))/\w'=w:=by
 go_enter Tryz.func162,Tryz.ntmps162;go_wp2_with (go_at_call 156;refine(B0 _ _).mono ?_;rintro e' w1⟨rfl,rfl⟩)
 go_ret;exact⟨rfl,rfl⟩
theorem aj0 (a:Int) (w:World):Calls Tryz.prog 163 #[I a] w λe w'=>e= .returned (I (oQ (a==0)))/\w'=w:=by
 go_enter Tryz.func163,Tryz.ntmps163;go_wp2_with (go_at_call 156;refine(B0 _ _).mono ?_;rintro e' w1⟨rfl,rfl⟩)
 go_ret;exact⟨rfl,rfl⟩
theorem aj1 (a:Int) (w:World):Calls Tryz.prog 164 #[I a] w λe w'=>e= .returned (I (bits .xor .i64 (-1) a))/\w'=w:=by
 go_enter Tryz.func164,Tryz.ntmps164;go_wp2_with (go_at_call 156;refine(B0 _ _).mono ?_;rintro e' w1⟨rfl,rfl⟩)
 go_ret;exact⟨rfl,rfl⟩
def Uj (op a b:Int):Int:=
 if op=1 then wrap64 (a+b)
 else if op=2 then wrap64 (a - b)
 else if op=3 then wrap64 (a*b)
 else if op=4 then CF a b
 else if op=5 then CG a b
 else if op=6 then bits .and .i64 a b
 else if op=7 then bits .or .i64 a b
 else if op=8 then bits .xor .i64 a b
 else if op=9 then wrap64 (a*2^CH b)
 else if op=10 then a/2^CH b
 else if op=11 then oQ (decide (a<b))
 else if op=12 then oQ (decide (a<=b))
 else if op=13 then oQ (decide (b<a))
 else if op=14 then oQ (decide (b<=a))
 else if op=15 then oQ (a==b)
 else oQ (a !=b)
def Uk (op a:Int):Int:=if op=17 then wrap64 (-a)else if op=18 then oQ (a==0)else bits .xor .i64 (-1) a
def fC (op a b:Int):Option Int:=if op<1\/16<op then none else if b=0/\(op=4\/op=5)then none else some (Uj op a b)
def qp (op a:Int):Option Int:=if op<17\/19<op then none else some (Uk op a)
theorem aha (op:Int) (h:1<=op/\op<=16) (a b:Int) (w:World):Calls Tryz.prog (xQ op) #[I a,I b] w λe w'=>e= .returned (I (Uj op a b))/\w'=w:=by
 rcases(by omega:op=1\/op=2\/op=3\/op=4\/op=5\/op=6\/op=7\/op=8\/op=9\/op=10\/op=11\/op=12\/op=13\/op=14\/op=15\/op=16)with rfl|rfl|rfl|rfl|rfl|rfl|rfl|rfl|rfl|rfl|rfl|rfl|rfl|rfl|rfl|rfl
 ·exact ajJ a b w
 ·exact ajK a b w
 ·exact ajL a b w
 ·exact ajX a b w
 ·exact ajY a b w
 ·exact ajM a b w
 ·exact ajN a b w
 ·exact ajO a b w
 ·exact ajP a b w
 ·exact ajQ a b w
 ·exact ajR a b w
 ·exact ajS a b w
 ·exact ajT a b w
 ·exact ajU a b w
 ·exact ajV a b w
 ·exact ajW a b w
theorem ahb (op:Int) (h:17<=op/\op<=19) (a:Int) (w:World):Calls Tryz.prog (wL op) #[I a] w λe w'=>e= .returned (I (Uk op a))/\w'=w:=by
 rcases(by omega:op=17\/op=18\/op=19)with rfl|rfl|rfl
 ·exact ajZ a w
 ·exact aj0 a w
 ·exact aj1 a w
end
end Go.Proofs.YtjgbkdbkachciaaGreatDoor
