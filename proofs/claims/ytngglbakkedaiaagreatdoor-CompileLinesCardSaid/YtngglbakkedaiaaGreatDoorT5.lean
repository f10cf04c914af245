import Derived.Test.YtngglbakkedaiaaGreatDoorQ0
import Derived.Laws.EntriesVeiled
import Derived.Laws.RangeString
import Derived.Laws.RangeAny
import Derived.Deep.CutBlock
import Derived.Lib.Strings
import Derived.Lib.SmallJoins
set_option linter.all false
namespace Go.Proofs.YtngglbakkedaiaaGreatDoor
abbrev Str:=List UInt8
structure Tok where
 kind:Int
 text:Str
 n:Int
 line:Int
deriving DecidableEq
inductive LE where
 |mk (kind op n:Int) (name:Str) (args:List LE)
def LE.kind:LE→Int| .mk k _ _ _ _=>k
def LE.op:LE→Int| .mk _ o _ _ _=>o
def LE.n:LE→Int| .mk _ _ n _ _=>n
def LE.name:LE→Str| .mk _ _ _ s _=>s
def LE.args:LE→List LE| .mk _ _ _ _ l=>l
inductive LS where
 |mk (kind:Int) (name:Str) (args:List LE) (thn els:List LS)
def LS.kind:LS→Int| .mk k _ _ _ _=>k
def LS.name:LS→Str| .mk _ s _ _ _=>s
def LS.args:LS→List LE| .mk _ _ l _ _=>l
def LS.thn:LS→List LS| .mk _ _ _ l _=>l
def LS.els:LS→List LS| .mk _ _ _ _ l=>l
structure LF where
 name:Str
 params:List Str
 locals:List Str
 body:List LS
structure LA where
 name:Str
 size:Int
structure LP where
 arrays:List LA
 funcs:List LF
def signS (op:Int):Str:=
 if op=1 then [43]else if op=2 then [45]else if op=3 then [42]else if op=4 then [47]else if op=5 then [37]else if op=6 then [38]
 else if op=7 then [124]else if op=8 then [94]else if op=9 then [60,60]else if op=10 then [62,62]else if op=11 then [60]else if op=12 then [60,61]
 else if op=13 then [62]else if op=14 then [62,61]else if op=15 then [61,61]else if op=16 then [33,61]else if op=17 then [45]else if op=18 then [33]
 else if op=19 then [126]else []
def levelI (op:Int):Int:=
 if op=1∨op=2 then 7 else if op=3∨op=4∨op=5 then 8 else if op=6 then 3 else if op=7 then 1 else if op=8 then 2
 else if op=9∨op=10 then 6 else if 11≤op∧op≤14 then 5 else if op=15∨op=16 then 4 else 0
def isLetter (b:UInt8):Bool:=b==95||(decide (97≤b.toNat)&&decide (b.toNat≤122))||(decide (65≤b.toNat)&&decide (b.toNat≤90))
def isDigit (b:UInt8):Bool:=decide (48≤b.toNat)&&decide (b.toNat≤57)
def wordsL:List Str:= [[105,110,116],[105,102],[101,108,115,101],[119,104,105,108,101],[98,114,101,97,107],[99,111,110,116,105,110,117,101],[114,101,116,117,114,110],[112,114,105,110,116],[114,101,97,100],[116,114,97,112]]
def isWord (s:Str):Bool:=wordsL.contains s
def isName (s:Str):Bool:= !s.isEmpty&&decide (s.length≤20)&& !isWord s&&(s.head?.map isLetter).getD false&&s.all fun b=>isLetter b||isDigit b
def tokIs (t:Tok) (x:Str):Bool:=(decide (t.kind=2)||decide (t.kind=4))&&decide (t.text=x)
def binAt (lv:Int) (t:Tok):Nat→Int→Int
 |0,_=>0
 |k+1,op=>if tokIs t (signS op)&&decide (lv≤levelI op)then op else binAt lv t k (op+1)
def unAt (t:Tok):Nat→Int→Int
 |0,_=>0
 |k+1,op=>if tokIs t (signS op)then op else unAt t k (op+1)
section
open Go.RowKit Go.Shelf
attribute [local go_sem] Oper.semAt_some
abbrev S (l:Str):Value:= .string ⟨l.toArray⟩
def twoN (op:Int):Nat:=if op=1 then 372 else if op=2 then 373 else if op=3 then 374 else if op=4 then 162 else if op=5 then 163 else if op=6 then 375 else if op=7 then 376 else if op=8 then 377
 else if op=9 then 378 else if op=10 then 379 else if op=11 then 380 else if op=12 then 382 else if op=13 then 383 else if op=14 then 384 else if op=15 then 385 else if op=16 then 386 else 0
def oneN (op:Int):Nat:=if op=17 then 387 else if op=18 then 388 else if op=19 then 389 else 0
def fnV (n:Nat):Value:=if n=0 then .nilFunc else .func (.func n) #[] #[]
def rowV (op:Int):Value:= .agg #[S (signS op),I (levelI op),fnV (twoN op),fnV (oneN op)]
set_option maxRecDepth 100000 in
set_option maxHeartbeats 4000000 in
theorem rowOf_any (op:Int) (w:World):CR 345 #[I op] w (rowV op):=by
 have hcs:op=1∨op=2∨op=3∨op=4∨op=5∨op=6∨op=7∨op=8∨op=9∨op=10∨op=11∨op=12∨op=13∨op=14∨op=15∨op=16∨op=17∨op=18∨op=19∨(op<1∨19<op):=om0;rcases hcs with rfl|rfl|rfl|rfl|rfl|rfl|rfl|rfl|rfl|rfl|rfl|rfl|rfl|rfl|rfl|rfl|rfl|rfl|rfl|h
 case' inr.inr.inr.inr.inr.inr.inr.inr.inr.inr.inr.inr.inr.inr.inr.inr.inr.inr.inr=>
  have h1:(op==1)=false:=bo0;have h2:(op==2)=false:=bo0;have h3:(op==3)=false:=bo0;have h4:(op==4)=false:=bo0;have h5:(op==5)=false:=bo0;have h6:(op==6)=false:=bo0;have h7:(op==7)=false:=bo0;have h8:(op==8)=false:=bo0;have h9:(op==9)=false:=bo0;have h10:(op==10)=false:=bo0;have h11:(op==11)=false:=bo0;have h12:(op==12)=false:=bo0;have h13:(op==13)=false:=bo0;have h14:(op==14)=false:=bo0;have h15:(op==15)=false:=bo0;have h16:(op==16)=false:=bo0;have h17:(op==17)=false:=bo0;have h18:(op==18)=false:=bo0;have h19:(op==19)=false:=bo0;have hv:rowV op= .agg #[S [],I 0, .nilFunc, .nilFunc]:=by
   unfold rowV signS levelI twoN oneN fnV;simp only[beq_eq_false_iff_ne]at h1 h2 h3 h4 h5 h6 h7 h8 h9 h10 h11 h12 h13 h14 h15 h16 h17 h18 h19;simp [h1,h2,h3,h4,h5,h6,h7,h8,h9,h10,h11,h12,h13,h14,h15,h16,h17,h18,h19];omega
  have HV:=hqz9 hv;clear hv h
 all_goals
  go_enter Tryz.func345,Tryz.ntmps345;go_wp2;refine bodyPost_ret (results_cell_row rfl _ _ w 396 _ (0,0) _ rfl hn0 Tryz.underlying396 rfl kr0) rfl ?_;exact⟨by first|rfl|rw[HV.out],below_a1 _ _⟩
end
section
open Go.RowKit Go.Shelf
attribute [local go_sem] Oper.semAt_some
abbrev R32 (r:Int):Value:= .int .i32 r
def letterR (r:Int):Bool:=decide (r=95)||(decide (97≤r)&&decide (r≤122))||(decide (65≤r)&&decide (r≤90))
def digitR (r:Int):Bool:=decide (48≤r)&&decide (r≤57)
theorem isLetter_eq (b:UInt8):isLetter b=letterR b.toNat:=by
 have h:(b==95)=decide ((b.toNat:Int)=95):=by
  have:b=95↔(b.toNat:Int)=95:=by
   rw[←UInt8.toNat_inj];simp;omega
  by_cases hb:b=95
  ·rw[decide_eq_true (this.1 hb)];simpa using hb
  ·rw[decide_eq_false (fun e=>hb (this.2 e))];simpa using hb
 unfold isLetter letterR;rw[h]
 congr 1
 ·congr 1
  congr 1<;>(apply decide_eq_decide.2;omega)
 ·congr 1<;>(apply decide_eq_decide.2;omega)
theorem isDigit_eq (b:UInt8):isDigit b=digitR b.toNat:=by
 unfold isDigit digitR
 congr 1<;>(apply decide_eq_decide.2;omega)
def RuneFn (k:Nat) (p:Int→Bool):Prop:=∀(r:Int) (w:World),0≤r→r<128→Calls Tryz.prog k #[R32 r] w fun e w'=>e= .returned (.bool (p r))∧w=w'
set_option maxRecDepth 100000 in
set_option maxHeartbeats 2000000 in
theorem letter_any:RuneFn 98 letterR:=by
 intro r w h0 h1;go_enter Tryz.func98,Tryz.ntmps98;go_wp2
 all_goals
  go_ret;refine⟨congrArg (fun b=>Ending.returned (Value.bool b)) ?_,rfl⟩;rw[Bool.eq_iff_iff];simp [letterR]
  try omega
set_option maxRecDepth 100000 in
set_option maxHeartbeats 2000000 in
theorem digit_any:RuneFn 99 digitR:=by
 intro r w h0 h1;go_enter Tryz.func99,Tryz.ntmps99;go_wp2
 all_goals
  go_ret;refine⟨congrArg (fun b=>Ending.returned (Value.bool b)) ?_,rfl⟩;rw[Bool.eq_iff_iff];simp [digitR]
  try omega
def wordR (r:Int):Bool:=letterR r||digitR r
def Asc (l:Str):Prop:=∀b∈l,b.toNat<128
end
section
open Go.RowKit Go.Shelf
attribute [local go_sem] Oper.semAt_some
set_option maxRecDepth 100000 in
set_option maxHeartbeats 4000000 in
theorem word_any (l:Str) (w:World):Calls Tryz.prog 97 #[S l] w fun e w'=>e= .returned (.bool (isWord l))∧w=w':=by
 by_cases hw:l∈wordsL
 ·simp only[wordsL,List.mem_cons,List.not_mem_nil,or_false]at hw;rcases hw with rfl|rfl|rfl|rfl|rfl|rfl|rfl|rfl|rfl|rfl
  all_goals
   go_enter Tryz.func97,Tryz.ntmps97;go_wp2;go_ret;exact⟨rfl,rfl⟩
 ·have hf:isWord l=false:=by simpa [isWord]using hw
  have h0:(l== [105,110,116])=false:=bn0 (fun e=>hw (by rw[e];decide));have h1:(l== [105,102])=false:=bn0 (fun e=>hw (by rw[e];decide));have h2:(l== [101,108,115,101])=false:=bn0 (fun e=>hw (by rw[e];decide));have h3:(l== [119,104,105,108,101])=false:=bn0 (fun e=>hw (by rw[e];decide));have h4:(l== [98,114,101,97,107])=false:=bn0 (fun e=>hw (by rw[e];decide));have h5:(l== [99,111,110,116,105,110,117,101])=false:=bn0 (fun e=>hw (by rw[e];decide));have h6:(l== [114,101,116,117,114,110])=false:=bn0 (fun e=>hw (by rw[e];decide));have h7:(l== [112,114,105,110,116])=false:=bn0 (fun e=>hw (by rw[e];decide));have h8:(l== [114,101,97,100])=false:=bn0 (fun e=>hw (by rw[e];decide));have h9:(l== [116,114,97,112])=false:=bn0 (fun e=>hw (by rw[e];decide));have HF:=hqz9 hf;clear hf hw;go_enter Tryz.func97,Tryz.ntmps97;go_wp2;go_ret;exact⟨by rw[HF.out];rfl,rfl⟩
theorem isName_parts {l:Str} (h:isName l=true):l≠ []∧l.length≤20∧isWord l=false∧(∀b,l[0]? =some b→letterR b.toNat=true)∧∀(j:Nat) (b:UInt8),l[j]? =some b→wordR b.toNat=true:=by
 unfold isName at h;simp only[Bool.and_eq_true,Bool.not_eq_true',decide_eq_true_eq,List.all_eq_true]at h;obtain⟨⟨⟨⟨h1,h2⟩,h3⟩,h4⟩,h5⟩:=h;refine⟨by intro e;subst e;simp at h1,h2,h3,fun b hb=> ?_,fun j b hj=> ?_⟩
 ·rw[List.head?_eq_getElem?,hb]at h4;simp at h4;rw[←isLetter_eq];exact h4
 ·have:=h5 b (List.mem_of_getElem? hj);unfold wordR;rw[←isLetter_eq,←isDigit_eq];exact this
set_option maxRecDepth 100000 in
set_option maxHeartbeats 4000000 in
theorem name_yes (l:Str) (ha:Asc l) (hn:isName l=true) (w:World):CR 59 #[S l] w (.bool true):=by
 obtain⟨h1,h2,h3,h4,h5⟩:=isName_parts hn;have HA:=hqz9 ha;have H3:=hqz9 h3;have H4:=hqz9 h4;have H5:=hqz9 h5;have hnil:(l== [])=false:=bn0 h1;have hlen: ¬(l.length:Int)>20:=om0;clear ha hn h1 h3 h4 h5;go_enter Tryz.func59,Tryz.ntmps59;go_wp2_with (go_at_call 97;refine(word_any l w).mono ?_;rintro e w1⟨rfl,rfl⟩;rw[H3.out])
 go_loopg [3] l.length (fun gh v wr=>∃pos,gh+pos=l.length∧wr=w.iter ⟨l.toArray⟩ pos)
 case atStart=>exact⟨0,rfl,rfl⟩
 case round=>
  obtain⟨pos,hg,rfl⟩:=hrel;by_cases hlt:pos<l.length
  ·have hsz:pos<(⟨l.toArray⟩:ByteArray).size:=hlt;have⟨b,hb⟩:=xq (l[pos]);have hbl:b.toNat<128:=HA b (by rw[hb];exact List.getElem_mem hlt);have hbb:((⟨l.toArray⟩:ByteArray)[pos]'hsz)=b:=by rw[hb];rfl
   have hnx:∀ty,(Instr.next (.pointer (some (w,0))) true ty).run Tryz.prog (w.iter ⟨l.toArray⟩ pos)=_:=fun ty=>run_next_ascii w ⟨l.toArray⟩ pos ty hsz (by rw[hbb];exact hbl);rw[hbb]at hnx;have hbo:l[pos]? =some b:=by rw[hb];exact List.getElem?_eq_getElem hlt
   have hw5:=H5 pos b hbo;have HLT:=hqz9 hlt;cases hlet:letterR b.toNat
   ·have hpos:0<pos:=by
     rcases Nat.eq_zero_or_pos pos with e|e
     ·subst e;have:=H4 b hbo;rw[hlet]at this;cases this
     ·exact e
    have hdig:digitR b.toNat=true:=by
     unfold wordR at hw5;rw[hlet]at hw5;simpa using hw5
    have hpz:((pos:Int)==0)=false:=bo0;have HL:=hqz9 hlet;have HD:=hqz9 hdig;clear hb hbb hbo hw5 hlet hdig;go_wp2_with (first|(go_at_call 98;refine(letter_any _ _ om0 om0).mono ?_;rintro e w1⟨rfl,rfl⟩;rw[HL.out])|(go_at_call 99;refine(digit_any _ _ om0 om0).mono ?_;rintro e w1⟨rfl,rfl⟩;rw[HD.out]))
    go_roundg (l.length - (pos+1))
    case measure=>have:=HLT.out;omega
    case rel=>exact⟨pos+1,by have:=HLT.out;omega,rfl⟩
   ·have HL:=hqz9 hlet;clear hb hbb hbo hw5 hlet;go_wp2_with (go_at_call 98;refine(letter_any _ _ om0 om0).mono ?_;rintro e w1⟨rfl,rfl⟩;rw[HL.out])
    go_roundg (l.length - (pos+1))
    case measure=>have:=HLT.out;omega
    case rel=>exact⟨pos+1,by have:=HLT.out;omega,rfl⟩
  ·have hnx:∀ty,(Instr.next (.pointer (some (w,0))) true ty).run Tryz.prog (w.iter ⟨l.toArray⟩ pos)=_:=fun ty=>run_next_end w ⟨l.toArray⟩ pos ty hlt;go_wp2;go_ret;exact⟨rfl,below_a1 _ _⟩
end
section
open Go.RowKit Go.Shelf
attribute [local go_sem] Oper.semAt_some
theorem results_ct {P:Program} {fn:Func} {p u:Tmp} {ty:TypeId} (h:fn.results= #[.cell p ty, .tmp u]) (tmps:Array Value) (w:World) (g:Nat) (t:TypeId) (cs:Array Value) (fr:Nat×Nat) (d:TypeDesc)
  (hp:tmps.getD p undef= .pointer (some (g,0))) (hg:w.heap[g]? =some (.cells cs t fr))
  (hu:P.underlying ty=some d) (hd:(match d with| .struct _| .array _ _=>true|_=>false)=true) (hi:(P.info? ty).map (·.size)=some cs.size):
  (results fn tmps).run P w= .ok (.tuple #[.agg cs,tmps.getD u undef]) w:=by
 have hp':tmps[p]?.getD undef= .pointer (some (g,0)):=by simpa using hp
 simp [results,h,hp',asAddr,run_loadVar_row w g t ty cs fr d hg hu hd hi]
end
section
open Go.RowKit Go.Shelf
attribute [local go_sem] Oper.semAt_some
theorem Asc.take {l:Str} (h:Asc l) (n:Nat):Asc (l.take n):=fun b hb=>h b (List.mem_of_mem_take hb)
theorem Asc.drop {l:Str} (h:Asc l) (n:Nat):Asc (l.drop n):=fun b hb=>h b (List.mem_of_mem_drop hb)
end
section
open Go.RowKit Go.Shelf
attribute [local go_sem] Oper.semAt_some
theorem row_f1 (s l a b:Value) (w:World):(Instr.field 396 (.agg #[s,l,a,b]) 1).run Tryz.prog w= .ok l w:=kr0
set_option maxRecDepth 100000 in
theorem level_any (op:Int) (w:World):CR 299 #[I op] w (I (levelI op)):=by
 have hfd:=row_f1;go_enter Tryz.func299,Tryz.ntmps299;go_wp2_with (go_at_call 345;refine mh0 (rowOf_any op w) fun w1 HB1=> ?_;rw[show rowV op= .agg #[S (signS op),I (levelI op),fnV (twoN op),fnV (oneN op)]from rfl])
 go_ret;exact⟨rfl,HB1⟩
def wantF:List Str→List Tok→Option (List Tok)
 | [],ts=>some ts
 |_::_,[]=>none
 |x::xs,t::r=>if tokIs t x then wantF xs r else none
end
section
open Go.RowKit Go.Shelf
def RSlB {α:Type} (B:Nat→Prop) (k:Nat) (R:World→(Nat→Value)→α→Prop) (w:World) (v:Value) (l:List α):Prop:=
 ∃a c,v= .slice a l.length c∧l.length≤1000000000∧(l= []∨∃b o,a=some ⟨b,o,none⟩∧B b∧
  ∀i x,l[i]? =some x→∃C:Nat→Value,(∀j,j<k→w.cell? ⟨b,o+i*k+j,none⟩=some (C j))∧R w C x)
theorem RSlB.grown {α:Type} {B:Nat→Prop} {k:Nat} {R:World→(Nat→Value)→α→Prop} {w w':World} {row:Option Nat} (hg:w.grownBy w' row) (hB:∀r,row=some r→ ¬B r) (hR:∀C x,R w C x→R w' C x) {v:Value} {l:List α} (h:RSlB B k R w v l):RSlB B k R w' v l:=by
 obtain⟨a,c,h1,h2,h3⟩:=h;refine⟨a,c,h1,h2,h3.imp (fun h=>h) ?_⟩;rintro⟨b,o,h4,h5,h6⟩;refine⟨b,o,h4,h5,fun i x hx=> ?_⟩;obtain⟨C,hC,hr⟩:=h6 i x hx;exact⟨C,fun j hj=>gcell (hC j hj) hg (fun e=>hB b e.symm h5),hR C x hr⟩
theorem RSlB.weak {α:Type} {B B':Nat→Prop} {k:Nat} {R R':World→(Nat→Value)→α→Prop} {w:World} (hB:∀b,B b→B' b) (hR:∀C x,R w C x→R' w C x) {v:Value} {l:List α} (h:RSlB B k R w v l):RSlB B' k R' w v l:=by
 obtain⟨a,c,h1,h2,h3⟩:=h;refine⟨a,c,h1,h2,h3.imp (fun h=>h) ?_⟩;rintro⟨b,o,h4,h5,h6⟩;refine⟨b,o,h4,hB b h5,fun i x hx=> ?_⟩;obtain⟨C,hC,hr⟩:=h6 i x hx;exact⟨C,hC,hR C x hr⟩
theorem RSlB.nil {α:Type} (B:Nat→Prop) (k:Nat) (R:World→(Nat→Value)→α→Prop) (w:World):RSlB B k R w (.slice none 0 0) ([]:List α):=⟨none,0,rfl,sm0, .inl rfl⟩
def RE:Nat→(Nat→Prop)→World→(Nat→Value)→LE→Prop
 |0,_,_,_,_=>False
 |d+1,B,W,C,e=>C 0=I e.kind∧C 1=I e.op∧C 2=I e.n∧C 3=S e.name∧RSlB B 5 (RE d B) W (C 4) e.args
theorem RE.grown:∀(d:Nat) {B:Nat→Prop} {w w':World} {row:Option Nat} (_:w.grownBy w' row) (_:∀r,row=some r→ ¬B r) {C:Nat→Value} {e:LE},RE d B w C e→RE d B w' C e
 |0,_,_,_,_,_,_,_,_,h=>h
 |d+1,_,_,_,_,hg,hB,_,_,⟨h0,h1,h2,h3,h4⟩=>⟨h0,h1,h2,h3,h4.grown hg hB fun _ _ h=>RE.grown d hg hB h⟩
theorem RE.weak:∀(d:Nat) {B B':Nat→Prop} {w:World} (_:∀b,B b→B' b) {C:Nat→Value} {e:LE},RE d B w C e→RE d B' w C e
 |0,_,_,_,_,_,_,h=>h
 |d+1,_,_,_,hB,_,_,⟨h0,h1,h2,h3,h4⟩=>⟨h0,h1,h2,h3,h4.weak hB fun _ _ h=>RE.weak d hB h⟩
theorem RE.succ:∀(d:Nat) {B:Nat→Prop} {w:World} {C:Nat→Value} {e:LE},RE d B w C e→RE (d+1) B w C e
 |0,_,_,_,_,h=>h.elim
 |d+1,_,_,_,_,⟨h0,h1,h2,h3,h4⟩=>⟨h0,h1,h2,h3,h4.weak (fun _ h=>h) fun _ _ h=>RE.succ d h⟩
theorem RE.le {d d':Nat} (h:d≤d') {B:Nat→Prop} {w:World} {C:Nat→Value} {e:LE} (hr:RE d B w C e):RE d' B w C e:=by
 induction h with
 |refl=>exact hr
 |step _ ih=>exact RE.succ _ ih
abbrev eV (e:LE) (av:Value):Value:= .agg #[I e.kind,I e.op,I e.n,S e.name,av]
def EArgs (base:Nat) (W:World) (av:Value) (e:LE):Prop:=∃d,RSlB (base≤·) 5 (RE d (base≤·)) W av e.args
theorem EArgs.grown {base:Nat} {w w':World} {row:Option Nat} {av:Value} {e:LE} (h:EArgs base w av e) (hg:w.grownBy w' row) (hr:∀r,row=some r→r<base):EArgs base w' av e:=by
 obtain⟨d,h⟩:=h;have hB:∀r,row=some r→ ¬(base≤r):=fun r e=>by have:=hr r e;omega
 exact⟨d,h.grown hg hB fun _ _ h=>RE.grown d hg hB h⟩
theorem EArgs.mono {base base':Nat} {w:World} {av:Value} {e:LE} (h:EArgs base w av e) (hb:base'≤base):EArgs base' w av e:=by
 obtain⟨d,h⟩:=h;exact⟨d,h.weak (fun b hb'=>Nat.le_trans hb hb') fun _ _ h=>RE.weak d (fun b hb'=>Nat.le_trans hb hb') h⟩
theorem EArgs.slice {base:Nat} {w:World} {av:Value} {e:LE} (h:EArgs base w av e):∃a c,av= .slice a e.args.length c:=by
 obtain⟨d,a,c,h,_⟩:=h;exact⟨a,c,h⟩
theorem EArgs.nil {base:Nat} {w:World} {e:LE} (h:e.args= []):EArgs base w (.slice none 0 0) e:=⟨0,by rw[h];exact RSlB.nil _ _ _ _⟩
def eRow (e:LE) (av:Value):List Value:= [I e.kind,I e.op,I e.n,S e.name,av]
theorem EArgs.one {base g:Nat} {w:World} {e x:LE} {xv:Value} (hx:e.args= [x]) (hb:base≤g) (hrow:Row w g 57 (eRow x xv)) (h:EArgs base w xv x):EArgs base w (.slice (some (g,0)) 1 1) e:=by
 obtain⟨d,h⟩:=h;refine⟨d+1,some (g,0),1,by rw[hx];rfl,by rw[hx];simp, .inr ⟨g,0,rfl,hb,fun i y hy=> ?_⟩⟩;rw[hx]at hy;obtain⟨rfl,rfl⟩:i=0∧y=x:=by
  cases i with
  |zero=>simp at hy;exact⟨rfl,hy.symm⟩
  |succ i=>simp at hy
 refine⟨fun j=>(eRow y xv).getD j undef,fun j hj=> ?_,rfl,rfl,rfl,rfl,h⟩;rw[hrow.cell];rcases(by omega:j=0∨j=1∨j=2∨j=3∨j=4)with rfl|rfl|rfl|rfl|rfl<;>rfl
theorem EArgs.two {base g:Nat} {w:World} {e x y:LE} {xv yv:Value} (hx:e.args= [x,y]) (hb:base≤g) (hrow:Row w g 57 (eRow x xv++eRow y yv)) (h:EArgs base w xv x) (k:EArgs base w yv y):EArgs base w (.slice (some (g,0)) 2 2) e:=by
 obtain⟨d,h⟩:=h;obtain⟨d',k⟩:=k;have h':=h.weak (B':=(base≤·)) (R':=RE (max d d') (base≤·)) (fun _ h=>h) (fun _ _ h=>RE.le (Nat.le_max_left d d') h);have k':=k.weak (B':=(base≤·)) (R':=RE (max d d') (base≤·)) (fun _ h=>h) (fun _ _ h=>RE.le (Nat.le_max_right d d') h);refine⟨max d d'+1,some (g,0),2,by rw[hx];rfl,by rw[hx];simp, .inr ⟨g,0,rfl,hb,fun i z hz=> ?_⟩⟩;rw[hx]at hz;rcases(by cases i with
  |zero=>simp at hz;exact .inl ⟨rfl,hz.symm⟩
  |succ i=>cases i with
   |zero=>simp at hz;exact .inr ⟨rfl,hz.symm⟩
   |succ i=>simp at hz:(i=0∧z=x)∨(i=1∧z=y))with⟨rfl,rfl⟩|⟨rfl,rfl⟩
 ·refine⟨fun j=>(eRow z xv).getD j undef,fun j hj=> ?_,rfl,rfl,rfl,rfl,h'⟩;rw[hrow.cell];rcases(by omega:j=0∨j=1∨j=2∨j=3∨j=4)with rfl|rfl|rfl|rfl|rfl<;>rfl
 ·refine⟨fun j=>(eRow z yv).getD j undef,fun j hj=> ?_,rfl,rfl,rfl,rfl,k'⟩;rw[hrow.cell];rcases(by omega:j=0∨j=1∨j=2∨j=3∨j=4)with rfl|rfl|rfl|rfl|rfl<;>rfl
mutual
def tF:Nat→List Tok→Option (LE×List Tok)
 |0,_=>none
 |_+1,[]=>none
 |k+1,t::r=>
  if unAt t 3 17≠0 then(tF k r).map fun p=>(.mk 3 (unAt t 3 17) 0 [] [p.1],p.2)
  else if tokIs t [40]then match cF k 1 r with
   |some (e,us)=>(wantF [[41]] us).map fun r'=>(e,r')
   |none=>none
  else if tokIs t [114,101,97,100]then(wantF [[40],[41]] r).map fun r'=>(.mk 7 0 0 [] [],r')
  else if t.kind=3 then some (.mk 1 0 t.n [] [],r)
  else if t.kind=1 then nF k t.text r
  else none
def nF:Nat→Str→List Tok→Option (LE×List Tok)
 |0,_,_=>none
 |_+1,_,[]=>none
 |k+1,nm,t::r=>
  if tokIs t [40]then none
  else if tokIs t [91]then match cF k 1 r with
   |some (e,us)=>(wantF [[93]] us).map fun r'=>(.mk 6 0 0 nm [e],r')
   |none=>none
  else some (.mk 2 0 0 nm [],t::r)
def cF:Nat→Int→List Tok→Option (LE×List Tok)
 |0,_,_=>none
 |k+1,lv,ts=>match tF k ts with
  |some (e,r)=>lF k lv e r
  |none=>none
def lF:Nat→Int→LE→List Tok→Option (LE×List Tok)
 |0,_,_,_=>none
 |_+1,_,_,[]=>none
 |k+1,lv,e,t::r=>
  if binAt lv t 16 1=0 then some (e,t::r)
  else match cF k (levelI (binAt lv t 16 1)+1) r with
   |some (f,r')=>lF k lv (.mk 4 (binAt lv t 16 1) 0 [] [e,f]) r'
   |none=>none
end
end
section
open Go.RowKit Go.Shelf
attribute [local go_sem] Oper.semAt_some
theorem setRow_grown {w:World} {g:Nat} {cs:Array Value}:w.grownBy (w.setRow g cs) (some g):=⟨rfl,rfl,rfl,sm0,fun i _ hi=>setRow_other _ _ _ _ (fun e=>hi (by rw[e]))⟩
theorem store_first {P:Program} {ops:Array Oper} {rest:List Oper} {o:Oper} {a:Act} {w:World} {Q:Exit→Act→World→Prop} (ty:TypeId) (x y:Operand) (_:o.op= .store ty x y) (h:wpList P ops Q (o::rest) a w):wpList P ops Q (o::rest) a w:=h
theorem sr {P:Program} {ops:Array Oper} {rest:List Oper} {o:Oper} {a:Act} {w:World} {Q:Exit→Act→World→Prop} {cells:Array Value} (ty:TypeId) (x y:Operand) (g:Nat) (old:Array Value) (hg:w.heap[g]? =some (.cells old ty (0,0))) (h:wpList P ops Q rest (a.put o.dst undef) (w.setRow g cells))
  (ho:o.op= .store ty x y:=by rfl) (hgd:o.guard=none:=by rfl) (hx:a.eval x= .pointer (some (g,0)):=by rfl) (hy:a.eval y= .agg cells:=by rfl) (hi:(P.info? ty).map (·.size)=some cells.size:=by kernel_rfl)
  (hold:old.size=cells.size:=by rfl) (h1:cells.all (·.oneCell')=true:=by simp [Value.oneCell']):wpList P ops Q (o::rest) a w:=wpList_store_row hgd ty x y ho g cells hx hy ty old hg hi hold h1 h
abbrev eZ:Array Value:= #[.int .i64 0, .int .i64 0, .int .i64 0, .string ⟨#[]⟩, .slice none 0 0]
end
section
open Go.RowKit Go.Shelf
attribute [local go_sem] Oper.semAt_some
theorem EArgs.alloc {base:Nat} {w:World} {o:Obj} {av:Value} {e:LE} (h:EArgs base w av e):EArgs base (w.alloc o) av e:=h.grown (alloc_grown w o none) nx0
end
section
open Go.RowKit Go.Shelf
attribute [local go_sem] Oper.semAt_some
def EX (B:Nat→Prop) (W:World) (av:Value) (e:LE):Prop:=∃d,RSlB B 5 (RE d B) W av e.args
theorem EX.grown {B:Nat→Prop} {w w':World} {row:Option Nat} {av:Value} {e:LE} (h:EX B w av e) (hg:w.grownBy w' row) (hr:∀r,row=some r→ ¬B r):EX B w' av e:=by
 obtain⟨d,h⟩:=h;exact⟨d,h.grown hg hr fun _ _ h=>RE.grown d hg hr h⟩
theorem EX.alloc {B:Nat→Prop} {w:World} {o:Obj} {av:Value} {e:LE} (h:EX B w av e):EX B (w.alloc o) av e:=h.grown (alloc_grown w o none) nx0
theorem EX.weak {B B':Nat→Prop} {w:World} {av:Value} {e:LE} (h:EX B w av e) (hb:∀b,B b→B' b):EX B' w av e:=by
 obtain⟨d,h⟩:=h;exact⟨d,h.weak hb fun _ _ h=>RE.weak d hb h⟩
theorem EX.slice {B:Nat→Prop} {w:World} {av:Value} {e:LE} (h:EX B w av e):∃a c,av= .slice a e.args.length c:=by
 obtain⟨d,a,c,h,_⟩:=h;exact⟨a,c,h⟩
theorem RSlB.size {α:Type} {B:Nat→Prop} {k:Nat} (hk:0<k) {R R':World→(Nat→Value)→α→Prop} {w:World} (hR:∀C x,R w C x→R' w C x) {v:Value} {l:List α} (h:RSlB B k R w v l):RSlB (fun b=>B b∧b<w.heap.size) k R' w v l:=by
 obtain⟨a,c,h1,h2,h3⟩:=h;refine⟨a,c,h1,h2, ?_⟩;cases l with
 |nil=>exact .inl rfl
 |cons x0 l0=>
  rcases h3 with h3|⟨b,o,h4,h5,h6⟩
  ·cases h3
  ·right;refine⟨b,o,h4,⟨h5, ?_⟩,fun i x hx=> ?_⟩
   ·obtain⟨C,hC,_⟩:=h6 0 x0 rfl;exact World.block_lt_of_cell? w (b,o+0*k+0) (hC 0 hk)
   ·obtain⟨C,hC,hr⟩:=h6 i x hx;exact⟨C,hC,hR C x hr⟩
theorem RE.size:∀(d:Nat) {B:Nat→Prop} {w:World} {C:Nat→Value} {e:LE},RE d B w C e→RE d (fun b=>B b∧b<w.heap.size) w C e
 |0,_,_,_,_,h=>h
 |d+1,_,_,_,_,⟨h0,h1,h2,h3,h4⟩=>⟨h0,h1,h2,h3,h4.size om0 fun _ _ h=>RE.size d h⟩
theorem EX.size {B:Nat→Prop} {w:World} {av:Value} {e:LE} (h:EX B w av e):EX (fun b=>B b∧b<w.heap.size) w av e:=by
 obtain⟨d,h⟩:=h;exact⟨d,h.size om0 fun _ _ h=>RE.size d h⟩
theorem EX.two {B:Nat→Prop} {g:Nat} {w:World} {e x y:LE} {xv yv:Value} (hx:e.args= [x,y]) (hb:B g) (hrow:Row w g 57 (eRow x xv++eRow y yv)) (h:EX B w xv x) (k:EX B w yv y):EX B w (.slice (some (g,0)) 2 2) e:=by
 obtain⟨d,h⟩:=h;obtain⟨d',k⟩:=k;have h':=h.weak (B':=B) (R':=RE (max d d') B) (fun _ h=>h) (fun _ _ h=>RE.le (Nat.le_max_left d d') h);have k':=k.weak (B':=B) (R':=RE (max d d') B) (fun _ h=>h) (fun _ _ h=>RE.le (Nat.le_max_right d d') h);refine⟨max d d'+1,some (g,0),2,by rw[hx];rfl,by rw[hx];simp, .inr ⟨g,0,rfl,hb,fun i z hz=> ?_⟩⟩;rw[hx]at hz;rcases(by cases i with
  |zero=>simp at hz;exact .inl ⟨rfl,hz.symm⟩
  |succ i=>cases i with
   |zero=>simp at hz;exact .inr ⟨rfl,hz.symm⟩
   |succ i=>simp at hz:(i=0∧z=x)∨(i=1∧z=y))with⟨rfl,rfl⟩|⟨rfl,rfl⟩
 ·refine⟨fun j=>(eRow z xv).getD j undef,fun j hj=> ?_,rfl,rfl,rfl,rfl,h'⟩;rw[hrow.cell];rcases(by omega:j=0∨j=1∨j=2∨j=3∨j=4)with rfl|rfl|rfl|rfl|rfl<;>rfl
 ·refine⟨fun j=>(eRow z yv).getD j undef,fun j hj=> ?_,rfl,rfl,rfl,rfl,k'⟩;rw[hrow.cell];rcases(by omega:j=0∨j=1∨j=2∨j=3∨j=4)with rfl|rfl|rfl|rfl|rfl<;>rfl
end
section
open Go.RowKit Go.Shelf
attribute [local go_sem] Oper.semAt_some
def RS:Nat→(Nat→Prop)→World→(Nat→Value)→LS→Prop
 |0,_,_,_,_=>False
 |d+1,B,W,C,s=>C 0=I s.kind∧C 1=S s.name∧EX B W (C 2) (.mk 0 0 0 [] s.args)∧RSlB B 5 (RS d B) W (C 3) s.thn∧RSlB B 5 (RS d B) W (C 4) s.els
theorem RS.grown:∀(d:Nat) {B:Nat→Prop} {w w':World} {row:Option Nat} (_:w.grownBy w' row) (_:∀r,row=some r→ ¬B r) {C:Nat→Value} {s:LS},RS d B w C s→RS d B w' C s
 |0,_,_,_,_,_,_,_,_,h=>h
 |d+1,_,_,_,_,hg,hB,_,_,⟨h0,h1,h2,h3,h4⟩=>⟨h0,h1,h2.grown hg hB,h3.grown hg hB fun _ _ h=>RS.grown d hg hB h,h4.grown hg hB fun _ _ h=>RS.grown d hg hB h⟩
theorem RS.weak:∀(d:Nat) {B B':Nat→Prop} {w:World} (_:∀b,B b→B' b) {C:Nat→Value} {s:LS},RS d B w C s→RS d B' w C s
 |0,_,_,_,_,_,_,h=>h
 |d+1,_,_,_,hB,_,_,⟨h0,h1,h2,h3,h4⟩=>⟨h0,h1,h2.weak hB,h3.weak hB fun _ _ h=>RS.weak d hB h,h4.weak hB fun _ _ h=>RS.weak d hB h⟩
theorem RS.succ:∀(d:Nat) {B:Nat→Prop} {w:World} {C:Nat→Value} {s:LS},RS d B w C s→RS (d+1) B w C s
 |0,_,_,_,_,h=>h.elim
 |d+1,_,_,_,_,⟨h0,h1,h2,h3,h4⟩=>⟨h0,h1,h2,h3.weak (fun _ h=>h) fun _ _ h=>RS.succ d h,h4.weak (fun _ h=>h) fun _ _ h=>RS.succ d h⟩
theorem RS.le {d d':Nat} (h:d≤d') {B:Nat→Prop} {w:World} {C:Nat→Value} {s:LS} (hr:RS d B w C s):RS d' B w C s:=by
 induction h with
 |refl=>exact hr
 |step _ ih=>exact RS.succ _ ih
def SX (B:Nat→Prop) (W:World) (v:Value) (l:List LS):Prop:=∃d,RSlB B 5 (RS d B) W v l
theorem SX.grown {B:Nat→Prop} {w w':World} {row:Option Nat} {v:Value} {l:List LS} (h:SX B w v l) (hg:w.grownBy w' row) (hr:∀r,row=some r→ ¬B r):SX B w' v l:=by
 obtain⟨d,h⟩:=h;exact⟨d,h.grown hg hr fun _ _ h=>RS.grown d hg hr h⟩
theorem SX.alloc {B:Nat→Prop} {w:World} {o:Obj} {v:Value} {l:List LS} (h:SX B w v l):SX B (w.alloc o) v l:=h.grown (alloc_grown w o none) nx0
theorem SX.ext {B:Nat→Prop} {w w':World} {n:Nat} {v:Value} {l:List LS} (h:SX B w v l) (hb:Below n w w') (hn:w.heap.size≤n):SX B w' v l:=h.grown (below_grown (hb.mono hn) none) nx0
theorem SX.weak {B B':Nat→Prop} {w:World} {v:Value} {l:List LS} (h:SX B w v l) (hb:∀b,B b→B' b):SX B' w v l:=by
 obtain⟨d,h⟩:=h;exact⟨d,h.weak hb fun _ _ h=>RS.weak d hb h⟩
theorem SX.slice {B:Nat→Prop} {w:World} {v:Value} {l:List LS} (h:SX B w v l):∃a c,v= .slice a l.length c:=by
 obtain⟨d,a,c,h,_⟩:=h;exact⟨a,c,h⟩
theorem slStmt:SlT 49 55 5 96:=SlT.mk' (z:= .agg #[.int .i64 0, .string ByteArray.empty, .slice none 0 0, .slice none 0 0, .slice none 0 0]) Tryz.underlying49 kr0 rfl dc0
theorem OwnS.rslB {α β:Type} {k e:Nat} {enc:α→List Value} {w:World} {base:Nat} {v:Value} {l:List α} {R:World→(Nat→Value)→β→Prop} (f:α→β) (h:OwnS k e enc w base v l) (hk:∀x,(enc x).length=k) (hl:l.length≤1000000000) (hR:∀x∈l,R w (fun j=>(enc x).getD j undef) (f x)):RSlB (base≤·) k R w v (l.map f):=by
 obtain⟨a,c,hv⟩:=h.slice;refine⟨a,c,by rw[List.length_map];exact hv,by rw[List.length_map];exact hl, ?_⟩;cases l with
 |nil=>exact .inl rfl
 |cons x0 l0=>
  right;obtain⟨g,c',hv',hbg,_⟩:=h.cell hk (i:=0) sm0;have ha:a=some ⟨g,0,none⟩:=by rw[hv]at hv';simp at hv';exact hv'.1
  refine⟨g,0,ha,hbg,fun i x hx=> ?_⟩;rw[List.getElem?_map]at hx;have hi:i<(x0::l0).length:=by
   rcases Nat.lt_or_ge i (x0::l0).length with h'|h'
   ·exact h'
   ·rw[List.getElem?_eq_none h']at hx;cases hx
  rw[List.getElem?_eq_getElem hi]at hx;simp only[Option.map_some,Option.some.injEq]at hx;obtain⟨g2,c2,hv2,_,hcell⟩:=h.cell hk hi;obtain rfl:g2=g:=by rw[hv']at hv2;simp at hv2;exact hv2.1.symm
  refine⟨fun j=>(enc (x0::l0)[i]).getD j undef,fun j hj=> ?_,by rw[←hx];exact hR _ (List.getElem_mem hi)⟩;rw[Nat.zero_add,(hcell j hj).1];have:j<(enc (x0::l0)[i]).length:=by rw[hk];exact hj
  simp [this]
end
section
open Go.RowKit Go.Shelf
attribute [local go_sem] Oper.semAt_some
theorem heap_at {w:World} {o:Obj} {k:Nat} (h:k=w.heap.size):(w.alloc o).heap[k]? =some o:=by rw[h];exact heap_new _ _
theorem ha0{w:World} {o:Obj} {k:Nat} (h:k=w.heap.size:=by simp):(w.alloc o).heap[k]? =some o:=heap_at h
end
section
open Go.RowKit Go.Shelf
attribute [local go_sem] Oper.semAt_some
def RStr (_:World) (C:Nat→Value) (x:Str):Prop:=C 0=S x
def RArr (_:World) (C:Nat→Value) (x:LA):Prop:=C 0=S x.name∧C 1=I x.size
def RF (B:Nat→Prop) (W:World) (C:Nat→Value) (f:LF):Prop:=C 0=S f.name∧RSlB B 1 RStr W (C 1) f.params∧RSlB B 1 RStr W (C 2) f.locals∧SX B W (C 3) f.body
theorem RF.grown {B:Nat→Prop} {w w':World} {row:Option Nat} (hg:w.grownBy w' row) (hB:∀r,row=some r→ ¬B r) {C:Nat→Value} {f:LF} (h:RF B w C f):RF B w' C f:=
 ⟨h.1,h.2.1.grown hg hB fun _ _ h=>h,h.2.2.1.grown hg hB fun _ _ h=>h,h.2.2.2.grown hg hB⟩
theorem RF.weak {B B':Nat→Prop} {w:World} (hB:∀b,B b→B' b) {C:Nat→Value} {f:LF} (h:RF B w C f):RF B' w C f:=
 ⟨h.1,h.2.1.weak hB fun _ _ h=>h,h.2.2.1.weak hB fun _ _ h=>h,h.2.2.2.weak hB⟩
structure PX (B:Nat→Prop) (W:World) (av fv:Value) (p:LP):Prop where
 arrays:RSlB B 2 RArr W av p.arrays
 funcs:RSlB B 4 (RF B) W fv p.funcs
theorem PX.grown {B:Nat→Prop} {w w':World} {row:Option Nat} (hg:w.grownBy w' row) (hB:∀r,row=some r→ ¬B r) {av fv:Value} {p:LP} (h:PX B w av fv p):PX B w' av fv p:=
 ⟨h.1.grown hg hB fun _ _ h=>h,h.2.grown hg hB fun _ _ h=>h.grown hg hB⟩
theorem PX.below {B:Nat→Prop} {w w':World} {av fv:Value} {p:LP} (h:PX B w av fv p) (hb:Below w w w'):PX B w' av fv p:=h.grown (below_grown hb none) nx0
theorem PX.weak {B B':Nat→Prop} {w:World} (hB:∀b,B b→B' b) {av fv:Value} {p:LP} (h:PX B w av fv p):PX B' w av fv p:=
 ⟨h.1.weak hB fun _ _ h=>h,h.2.weak hB fun _ _ h=>h.weak hB⟩
theorem PX.slice {B:Nat→Prop} {w:World} {av fv:Value} {p:LP} (h:PX B w av fv p):∃a c a' c',av= .slice a p.arrays.length c∧fv= .slice a' p.funcs.length c':=by
 obtain⟨⟨a,c,h1,_⟩,⟨a',c',h2,_⟩⟩:=h;exact⟨a,c,a',c',h1,h2⟩
theorem slFunc:SlT 25 51 4 88:=SlT.mk' (z:= .agg #[.string ByteArray.empty, .slice none 0 0, .slice none 0 0, .slice none 0 0]) Tryz.underlying25 kr0 rfl dc0
end
end Go.Proofs.YtngglbakkedaiaaGreatDoor
