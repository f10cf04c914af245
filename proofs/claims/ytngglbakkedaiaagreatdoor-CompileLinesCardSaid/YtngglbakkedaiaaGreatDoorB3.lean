import Derived.Test.YtngglbakkedaiaaGreatDoorB1
import Derived.Laws.BytesArg
import Derived.Laws.Concat
set_option linter.all false
namespace Go.Proofs.YtngglbakkedaiaaGreatDoor
section
open Go.RowKit Go.Shelf
attribute [local go_sem] Oper.semAt_some
def NmG (x:Str):Prop:=Asc x∧x.length≤100
theorem str_nm {b:Int} {x:ByteArray} (hb:0≤b∧b<128) (hx:x.size≤6) (ha:∀c∈x.data.toList,c.toNat<128):∃l:Str,(Ending.returned (.string (strOfNums [b]++x)))=Ending.returned (S l)∧NmG l:=by
 refine⟨(strOfNums [b]++x).data.toList,by cases (strOfNums [b]++x);rfl, ?_, ?_⟩
 ·intro c hc;rw[ByteArray.data_append,Array.toList_append,strOfNums_data]at hc;rcases List.mem_append.1 hc with hc|hc
  ·simp only[List.map_cons,List.map_nil,List.mem_singleton]at hc;rw[hc,UInt8.toNat_ofNat_of_lt' (by show b.toNat<256;omega)];omega
  ·exact ha c hc
 ·rw[ByteArray.data_append,Array.toList_append,strOfNums_data,List.length_append];simp only[List.map_cons,List.map_nil,List.length_cons,List.length_nil,Array.length_toList];have:x.data.size=x.size:=rfl;omega
def tailsV:List Value:= [.string ⟨#[]⟩, .string ⟨#[49]⟩, .string ⟨#[95]⟩, .string ⟨#[90,57]⟩, .string ⟨#[105,102]⟩, .string ⟨#[120]⟩, .string ⟨#[48]⟩, .string ⟨#[97,97]⟩, .string ⟨#[105,110,116,105,110,116]⟩, .string ⟨#[113,55]⟩, .string ⟨#[66]⟩, .string ⟨#[48,48]⟩]
theorem tails_at {W:World} {g:Nat} (h:Row W g 9 tailsV) {q:Nat} {x:ByteArray} (hq:tailsV[q]? =some (.string x)):W.cell? (g,q)=some (.string x):=by
 rw[h.cell];exact hq
theorem tails_str {q:Nat} (hq:q<12):∃x:ByteArray,tailsV[q]? =some (.string x)∧x.size≤6∧∀c∈x.data.toList,c.toNat<128:=by
 rcases(by omega:q=0∨q=1∨q=2∨q=3∨q=4∨q=5∨q=6∨q=7∨q=8∨q=9∨q=10∨q=11)with rfl|rfl|rfl|rfl|rfl|rfl|rfl|rfl|rfl|rfl|rfl|rfl<;>exact⟨_,rfl,dc0,dc0⟩
theorem bytes_one {W:World} {g:Nat} {b:Int} (h:Row W g 5 [.int .u8 b]):(convert 122 9 (.slice (some (g,0)) 1 1)).run Tryz.prog W= .ok (.string (strOfNums [b])) W:=
 run_convert_bytes_arg W 122 5 Tryz.underlying122 Tryz.underlying5 g 0 1 1 [b] rfl (fun i hi=>by
  obtain rfl:i=0:=om0
  rw[h.cell];rfl) 9 Tryz.underlying9
def OT.l10:OT:= .one 1 10 (.one 1 11 (.one 0 12 .nil))
def OT.l5:OT:= .one 1 5 (.one 1 11 (.one 0 12 .nil))
def OT.v9:OT:= .two 4 10 (.two 5 10 .l10 .l5) (.one 1 4 .l5)
def OT.v46:OT:= .two 4 6 (.two 5 6 (.one 1 6 (.one 0 9 .l10)) (.one 0 9 (.two 5 10 .l10 .l5))) (.one 0 9 .v9)
def OT.var:OT:= .one 0 0 (.one 0 1 (.one 0 2 (.one 0 3 (.one 0 7 (.one 0 8 .v46)))))
set_option maxRecDepth 100000 in
set_option maxHeartbeats 4000000 in
theorem var47_any (r:Int) (h0:0≤r) (h1:r<312) (W:World):
  Calls Tryz.prog 35 #[I r] W fun e w'=>(∃x:Str,e= .returned (S x)∧NmG x)∧Below W W w':=by
 have hp:pickI r 312=r:=by unfold pickI;rw[if_neg om0];exact Int.emod_eq_of_lt h0 h1
 obtain⟨q,hq⟩:∃q:Nat,(q:Int)=r/26:=⟨(r/26).toNat,om0⟩;have hq12:q<12:=om0;have hqr:r.tdiv 26=q:=by rw[Int.tdiv_eq_ediv_of_nonneg h0];exact hq.symm
 have hqz:(q:Int)<12:=om0;obtain⟨x,hx,hx6,hxa⟩:=tails_str hq12;have HX6:=hqz9 hx6;have HXA:=hqz9 hxa;have HPK:=hqz9 (pick79_any r 312 (by unfold InI;omega) om0 om0 W);rw[hp]at HPK;clear hp hq;have HX:=hqz9 hx;clear hx hx6 hxa;go_enter Tryz.func35,Tryz.ntmps35;go_upto_region 2 with(go_at_call 56;refine HPK.mono ?_;rintro e w1⟨rfl,rfl⟩)
 refine wp_region_ordT kr0 (fun _=>True) OT.var kr0 t20 ?_;intro wd hh hgd hS;have HB:=hqz9 (show Below w1 w1 wd from(Below.refl _ w1).grown hgd nl0 nx0);have hwk:IntKind.i64.wrap (q:Int)=q:=IntWalk.i64_in _ om0;clear hgd;refine lkT ?_;have⟨b,hb⟩:=xq (IntKind.u8.wrap (IntKind.i64.wrap (97+r.tmod 26)));rw[←hb];have hbr:0≤b∧b<128:=by
  have h26:r.tmod 26=r%26:=Int.tmod_eq_emod_of_nonneg h0;rw[hb,h26,IntKind.wrap_i64,IntKind.wrap_u8];omega
 have HBR:=hqz9 hbr;clear hb hh hbr;have hadd:∀w,(Op.stringOp .add (strOfNums [b]) x).run Tryz.prog w= .ok (.string (strOfNums [b]++x)) w:=fun w=>run_string_add_sum (w:=w) _ _ (by have:=HX6.out;rw[strOfNums_size];simp;omega);have cvA:=bytes_one (b:=b) (heap_new wd (.cells #[.int .u8 b] 5));have cvAB:=bytes_one (b:=b) (heap_old (wd.alloc (.cells #[.int .u8 b] 5)) (.cells #[.string ⟨#[]⟩, .string ⟨#[49]⟩, .string ⟨#[95]⟩, .string ⟨#[90,57]⟩, .string ⟨#[105,102]⟩, .string ⟨#[120]⟩, .string ⟨#[48]⟩, .string ⟨#[97,97]⟩, .string ⟨#[105,110,116,105,110,116]⟩, .string ⟨#[113,55]⟩, .string ⟨#[66]⟩, .string ⟨#[48,48]⟩] 9) (heap_new wd (.cells #[.int .u8 b] 5)));have cvBA:=bytes_one (b:=b) (heap_new (wd.alloc (.cells #[.string ⟨#[]⟩, .string ⟨#[49]⟩, .string ⟨#[95]⟩, .string ⟨#[90,57]⟩, .string ⟨#[105,102]⟩, .string ⟨#[120]⟩, .string ⟨#[48]⟩, .string ⟨#[97,97]⟩, .string ⟨#[105,110,116,105,110,116]⟩, .string ⟨#[113,55]⟩, .string ⟨#[66]⟩, .string ⟨#[48,48]⟩] 9)) (.cells #[.int .u8 b] 5));have xB:=tails_at (heap_new wd (.cells #[.string ⟨#[]⟩, .string ⟨#[49]⟩, .string ⟨#[95]⟩, .string ⟨#[90,57]⟩, .string ⟨#[105,102]⟩, .string ⟨#[120]⟩, .string ⟨#[48]⟩, .string ⟨#[97,97]⟩, .string ⟨#[105,110,116,105,110,116]⟩, .string ⟨#[113,55]⟩, .string ⟨#[66]⟩, .string ⟨#[48,48]⟩] 9)) HX;have xBA:=tails_at (heap_old (wd.alloc (.cells #[.string ⟨#[]⟩, .string ⟨#[49]⟩, .string ⟨#[95]⟩, .string ⟨#[90,57]⟩, .string ⟨#[105,102]⟩, .string ⟨#[120]⟩, .string ⟨#[48]⟩, .string ⟨#[97,97]⟩, .string ⟨#[105,110,116,105,110,116]⟩, .string ⟨#[113,55]⟩, .string ⟨#[66]⟩, .string ⟨#[48,48]⟩] 9)) (.cells #[.int .u8 b] 5) (heap_new wd (.cells #[.string ⟨#[]⟩, .string ⟨#[49]⟩, .string ⟨#[95]⟩, .string ⟨#[90,57]⟩, .string ⟨#[105,102]⟩, .string ⟨#[120]⟩, .string ⟨#[48]⟩, .string ⟨#[97,97]⟩, .string ⟨#[105,110,116,105,110,116]⟩, .string ⟨#[113,55]⟩, .string ⟨#[66]⟩, .string ⟨#[48,48]⟩] 9))) HX.out;have xAB:=tails_at (heap_new (wd.alloc (.cells #[.int .u8 b] 5)) (.cells #[.string ⟨#[]⟩, .string ⟨#[49]⟩, .string ⟨#[95]⟩, .string ⟨#[90,57]⟩, .string ⟨#[105,102]⟩, .string ⟨#[120]⟩, .string ⟨#[48]⟩, .string ⟨#[97,97]⟩, .string ⟨#[105,110,116,105,110,116]⟩, .string ⟨#[113,55]⟩, .string ⟨#[66]⟩, .string ⟨#[48,48]⟩] 9)) HX;simp only[World.size_alloc]at cvBA xAB;refine wpOrdT_two rfl rfl ?_ ?_
 ·go_wp2;refine QNT_keep trivial fun _=> ?_
  refine wpOrdT_two rfl rfl ?_ ?_
  ·go_wp2;refine QNT_keep trivial fun _=> ?_
   refine wpOrdT_turn rfl ?_;go_wp2;refine QNT_keep trivial fun _=> ?_
   refine lkT ?_;refine wpOrdT_turn rfl ?_;go_wp2;refine QNT_keep trivial fun _=> ?_
   refine wpOrdT_turn rfl ?_;go_wp2;refine QNT_keep trivial fun _=> ?_
   refine lkT ?_;refine wpOrdT_nil ?_;go_wp2;go_ret;exact⟨str_nm HBR HX6 HXA,HB.out.trans (((below_a1 wd _).alloc sm0 _).mono HB.size)⟩
  ·go_wp2;refine QNT_keep trivial fun _=> ?_
   refine lkT ?_;refine wpOrdT_two rfl rfl ?_ ?_
   ·go_wp2;refine QNT_keep trivial fun _=> ?_
    refine wpOrdT_turn rfl ?_;go_wp2;refine QNT_keep trivial fun _=> ?_
    refine wpOrdT_turn rfl ?_;go_wp2;refine QNT_keep trivial fun _=> ?_
    refine lkT ?_;refine wpOrdT_nil ?_;go_wp2;go_ret;exact⟨str_nm HBR HX6 HXA,HB.out.trans (((below_a1 wd _).alloc sm0 _).mono HB.size)⟩
   ·go_wp2;refine QNT_keep trivial fun _=> ?_
    refine wpOrdT_turn rfl ?_;go_wp2;refine QNT_keep trivial fun _=> ?_
    refine wpOrdT_turn rfl ?_;go_wp2;refine QNT_keep trivial fun _=> ?_
    refine lkT ?_;refine wpOrdT_nil ?_;go_wp2;go_ret;exact⟨str_nm HBR HX6 HXA,HB.out.trans (((below_a1 wd _).alloc sm0 _).mono HB.size)⟩
 ·go_wp2;refine QNT_keep trivial fun _=> ?_
  refine lkT ?_;refine wpOrdT_two rfl rfl ?_ ?_
  ·go_wp2;refine QNT_keep trivial fun _=> ?_
   refine wpOrdT_two rfl rfl ?_ ?_
   ·go_wp2;refine QNT_keep trivial fun _=> ?_
    refine wpOrdT_turn rfl ?_;go_wp2;refine QNT_keep trivial fun _=> ?_
    refine wpOrdT_turn rfl ?_;go_wp2;refine QNT_keep trivial fun _=> ?_
    refine lkT ?_;refine wpOrdT_nil ?_;go_wp2;go_ret;exact⟨str_nm HBR HX6 HXA,HB.out.trans (((below_a1 wd _).alloc sm0 _).mono HB.size)⟩
   ·go_wp2;refine QNT_keep trivial fun _=> ?_
    refine wpOrdT_turn rfl ?_;go_wp2;refine QNT_keep trivial fun _=> ?_
    refine wpOrdT_turn rfl ?_;go_wp2;refine QNT_keep trivial fun _=> ?_
    refine lkT ?_;refine wpOrdT_nil ?_;go_wp2;go_ret;exact⟨str_nm HBR HX6 HXA,HB.out.trans (((below_a1 wd _).alloc sm0 _).mono HB.size)⟩
  ·go_wp2;refine QNT_keep trivial fun _=> ?_
   refine wpOrdT_turn rfl ?_;go_wp2;refine QNT_keep trivial fun _=> ?_
   refine wpOrdT_turn rfl ?_;go_wp2;refine QNT_keep trivial fun _=> ?_
   refine wpOrdT_turn rfl ?_;go_wp2;refine QNT_keep trivial fun _=> ?_
   refine lkT ?_;refine wpOrdT_nil ?_;go_wp2;go_ret;exact⟨str_nm HBR HX6 HXA,HB.out.trans (((below_a1 wd _).alloc sm0 _).mono HB.size)⟩
end
section
open Go.RowKit Go.Shelf
attribute [local go_sem] Oper.semAt_some
structure Sc where
 free:Bool
 okV:Str→Prop
 okA:Str→Prop
 okC:Str→Nat→Prop
structure ScIn (c:Sc) (sb:Nat) (W:World) (vv av fv:Value):Prop where
 v:∃l:List Str,RSlB (·≠sb) 1 RStr W vv l∧(c.free=false→∀x∈l,c.okV x)
 a:∃l:List LA,RSlB (·≠sb) 2 RArr W av l∧(c.free=false→∀x∈l,c.okA x.name)
 f:∃l:List LF,RSlB (·≠sb) 4 (RF (·≠sb)) W fv l∧(c.free=false→∀x∈l,c.okC x.name x.params.length)
 any:c.free=true→(∀x,NmG x→c.okV x)∧(∀x,NmG x→c.okA x)∧∀x n,NmG x→n≤6→c.okC x n
theorem ScIn.kept {c:Sc} {sb:Nat} {W W':World} {vv av fv:Value} {row:Option Nat} (h:ScIn c sb W vv av fv) (hg:W.grownBy W' row) (hr:∀r,row=some r→r=sb):ScIn c sb W' vv av fv:=by
 have hB:∀r,row=some r→ ¬(r≠sb):=fun r e=>by simp [hr r e]
 obtain⟨⟨l1,h1,k1⟩,⟨l2,h2,k2⟩,⟨l3,h3,k3⟩,k4⟩:=h;exact⟨⟨l1,h1.grown hg hB i20,k1⟩,⟨l2,h2.grown hg hB i20,k2⟩,⟨l3,h3.grown hg hB (fun _ _ h=>h.grown hg hB),k3⟩,k4⟩
theorem SG.row {sb:Nat} {W W':World} (h:SG sb W W') {g:Nat} {t:TypeId} {cs:List Value} (hr:Row W g t cs) (hne:g≠sb):Row W' g t cs:=hr.kept h.1 (fun e=>hne (Option.some.inj e))
theorem Src.own {sb:Nat} {W W':World} (h:Src sb W) (hb:Below W W W'):Src sb W':=h.kept (below_grown hb none) nx0
theorem SG.start {sb:Nat} {w w1:World} (h:Src sb w) (hb:Below w w w1):SG sb w w1:=⟨below_grown hb _,h.own hb⟩
theorem SG.post {sb:Nat} {w w1 w2:World} (h:SG sb w w1) {row:Option Nat} (hg:w1.grownBy w2 row) (hs:sb<w.heap.size) (hr:∀r,row=some r→w.heap.size≤r):SG sb w w2:=by
 refine⟨⟨hg.os.trans h.1.os,hg.tape.trans h.1.tape,hg.output.trans h.1.output,Nat.le_trans h.1.size hg.size,fun i hi hne=> ?_⟩,h.2.kept hg (fun r e=>by have:=hr r e;omega)⟩;exact(hg.block i (Nat.lt_of_lt_of_le hi h.1.size) (fun e=>by have:=hr i e.symm;omega)).trans (h.1.block i hi hne)
theorem SG.size {sb:Nat} {w w1:World} (h:SG sb w w1):w.heap.size≤w1.heap.size:=h.1.size
theorem nat_of {r:Int} (h:0≤r):∃k:Nat,r=k:=⟨r.toNat,om0⟩
theorem str_at {B:Nat→Prop} {w:World} {a:Option Addr} {c n:Nat} {l:List Str} (h:RSlB B 1 RStr w (.slice a n c) l) {i:Nat} (hi:i<l.length):∃b o x,a=some ⟨b,o,none⟩∧w.cell? ⟨b,o+i,none⟩=some (S x)∧x∈l:=by
 obtain⟨b,o,C,h1,_,hC,hx⟩:=h.at hi;have e1:=hC 0 om0;rw[show C 0=S l[i]from hx]at e1;simp only[Nat.mul_one,Nat.add_zero]at e1;exact⟨b,o,_,h1,e1,List.getElem_mem _⟩
set_option maxRecDepth 100000 in
set_option maxHeartbeats 4000000 in
theorem name45_any (free loop:Bool) (sb:Nat) (W:World) (vv av fv lv:Value) (l:List Str) (hs:Src sb W) (hl:RSlB (·≠sb) 1 RStr W lv l) (hf:free=true∨l≠ []):
  Calls Tryz.prog 33 #[.agg #[vv,av,fv, .bool free, .bool loop], .pointer (some (sb,0)),lv] W fun e w'=>(∃x:Str,e= .returned (S x)∧(free=false→x∈l)∧(free=true→NmG x))∧SG sb W w':=by
 obtain⟨a0,c0,rfl,hl9, -⟩:=id hl;have⟨N,hN⟩:=xq l.length;rw[←hN]at hl hl9⊢;have⟨w1,hw1⟩:=xq (W.alloc (.cells #[vv,av,fv, .bool free, .bool loop] 48));have hwe:=hw1.symm;have hb1:=aB0 hw1;have hr1:=aN0 hw1;have c3:=hr1.k3;have HS1:=hqz9 (SG.start hs hb1);have HL1:=hqz9 (show RSlB (·≠sb) 1 RStr w1 (.slice a0 N c0) l from hl.grown (below_grown hb1 none) nx0 i20);have HN:=hqz9 hN;have HF:=hqz9 hf;clear hs hl hN hf hw1 hb1 hr1;cases free with
 |true=>
  go_enter Tryz.func33,Tryz.ntmps33;go_wp2_with (first|(go_at_call 12;refine(next25_any sb 312 w1 HS1.2 om0 om0).mono ?_;rintro e w2⟨⟨r,rfl,hr0,hr1⟩,hs2⟩;have HS2:=hqz9 (HS1.out.trans hs2);have HR:=hqz9 (And.intro hr0 hr1);clear hs2 hr0 hr1)|(go_at_call 35;refine(var47_any r HR.1 HR.2 w2).mono ?_;rintro e w3⟨⟨x,rfl,hnm⟩,hb3⟩;have HNM:=hqz9 hnm;clear hnm;have HS3:=hqz9 (HS2.out.trans (SG.start HS2.2 hb3));clear hb3))
  go_ret;exact⟨⟨x,rfl,se1,fun _=>HNM.out⟩,HS3⟩
 |false=>
  have hl0:l≠ []:=HF.out.resolve_left sm0;have hN1:0<N:=by rw[HN.out];exact List.length_pos_iff.2 hl0
  have hNz: ¬(N:Int)=0:=om0;have hNn: ¬N=0:=om0;clear hl0;go_enter Tryz.func33,Tryz.ntmps33;go_wp2_with (go_at_call 12;refine(next25_any sb N w1 HS1.2 om0 om0).mono ?_;rintro e w2⟨⟨r,rfl,hr0,hr1⟩,hs2⟩;have HS2:=hqz9 (HS1.out.trans hs2);have HL2:=hqz9 (HL1.grown hs2.1 (fun r e=>by cases e;simp) i20);clear hs2;obtain⟨k,rfl⟩:=nat_of hr0;have hkN:k<N:=om0;obtain⟨b,o,x,rfl,e1,hmem⟩:=str_at HL2.out (show k<l.length by rw[←HN.out];exact hkN);have HM:=hqz9 hmem;clear hmem c3)
  go_ret;exact⟨⟨x,rfl,fun _=>HM.out,se1⟩,HS2⟩
theorem arr_at {B:Nat→Prop} {w:World} {a:Option Addr} {c n:Nat} {l:List LA} (h:RSlB B 2 RArr w (.slice a n c) l) {i:Nat} (hi:i<l.length):∃b o x,a=some ⟨b,o,none⟩∧w.cell? ⟨b,o+i*2,none⟩=some (S x.name)∧w.cell? ⟨b,o+i*2+1,none⟩=some (I x.size)∧x∈l:=by
 obtain⟨b,o,C,h1,_,hC,hx⟩:=h.at hi;have e0:=hC 0 om0;have e1:=hC 1 om0;rw[show C 0=S l[i].name from hx.1]at e0;rw[show C 1=I l[i].size from hx.2]at e1;simp only[Nat.add_zero]at e0;exact⟨b,o,_,h1,e0,e1,List.getElem_mem _⟩
set_option maxRecDepth 100000 in
set_option maxHeartbeats 4000000 in
theorem array29_any (free loop:Bool) (sb:Nat) (W:World) (vv av fv:Value) (l:List LA) (hs:Src sb W) (hl:RSlB (·≠sb) 2 RArr W av l) (hf:free=true∨l≠ []):
  Calls Tryz.prog 16 #[.agg #[vv,av,fv, .bool free, .bool loop], .pointer (some (sb,0))] W fun e w'=>(∃(x:Str) (n:Int),e= .returned (.agg #[S x,I n])∧(free=false→∃a∈l,a.name=x)∧(free=true→NmG x))∧SG sb W w':=by
 obtain⟨a0,c0,rfl,hl9, -⟩:=id hl;have⟨N,hN⟩:=xq l.length;rw[←hN]at hl hl9⊢;obtain⟨w1,hw1⟩:∃w1,w1=(W.alloc (.cells #[vv, .slice a0 N c0,fv, .bool free, .bool loop] 48)).alloc (.cells #[.string ⟨#[]⟩, .int .i64 0] 60):=⟨_,rfl⟩;have hwe:=hw1.symm;have hb1:Below W W w1:=by rw[hw1];exact below_a2 _ _ _
 have hr1:Row w1 W 48 [vv, .slice a0 N c0,fv, .bool free, .bool loop]:=by rw[hw1];exact heap_old _ _ hn0
 have HR2:=hqz9 (show Row w1 (W,1) 60 [S [],I 0] by rw[hw1];exact heap_at sm0);have c1:=hr1.k1;have c3:=hr1.k3;have hsl:=hs.lt;have HS1:=hqz9 (SG.start hs hb1);have HR1:=hqz9 hr1;have HL1:=hqz9 (show RSlB (·≠sb) 2 RArr w1 (.slice a0 N c0) l from hl.grown (below_grown hb1 none) nx0 i20);have HN:=hqz9 hN;have HF:=hqz9 hf;clear hs hl hN hf hw1 hb1 hr1;have HD:Hid (∀(wx:World) (x:Str) (n:Int),SG sb W wx→SG sb W (wx.setRow (W,1) #[S x,I n])):=fun wx x n h=>h.post setRow_grown hsl sx0;cases free with
 |true=>
  go_enter Tryz.func16,Tryz.ntmps16;go_wp2_with (first|(refine sr 60 (.tmp 4) (.tmp 19) (W.heap.size+1) #[S [],I 0] HR4.out ?_)|(go_at_call 35;refine(var47_any r HR.1 HR.2 w2).mono ?_;rintro e w3⟨⟨x,rfl,hnm⟩,hb3⟩;have HNM:=hqz9 hnm;clear hnm;have HS3:=hqz9 (HS2.out.trans (SG.start HS2.2 hb3));have HR3:=xt0 HR2 hb3;clear hb3)|(go_at_call 12;first|(refine(next25_any sb 1000 w3 HS3.2 om0 om0).mono ?_;rintro e w4⟨⟨n,rfl,hn0,hn1⟩,hs4⟩;have HS4:=hqz9 (HS3.out.trans hs4);have HR4:=hqz9 (hs4.row HR3 om0);clear hs4)|(refine(next25_any sb 312 w1 HS1.2 om0 om0).mono ?_;rintro e w2⟨⟨r,rfl,hr0,hr1⟩,hs2⟩;have HS2:=hqz9 (HS1.out.trans hs2);replace HR2:=hqz9 (hs2.row HR2 om0);have HR:=hqz9 (And.intro hr0 hr1);clear hs2 hr0 hr1)))
  refine bodyPost_ret (results_cell_row rfl _ _ (W.heap.size+1) 60 _ (0,0) _ rfl (setRow_heap _ _ _ _ _ _ HR4.out) Tryz.underlying60 rfl kr0) rfl ?_;exact⟨⟨x,_,rfl,se1,fun _=>HNM.out⟩,HD _ _ _ HS4⟩
 |false=>
  have hl0:l≠ []:=HF.out.resolve_left sm0;have hN1:0<N:=by rw[HN.out];exact List.length_pos_iff.2 hl0
  have hNz: ¬(N:Int)=0:=om0;have hNn: ¬N=0:=om0;clear hl0;go_enter Tryz.func16,Tryz.ntmps16;go_upto_region 3 with(fail)
  refine rW0 (fun X=>X.cell? (W,1)=some (.slice a0 N c0)) [0,0,0,0,0,0,1,0,1,2] (fun wd hh=>row_at HR1.out hh 1) fun wd hh hgd hS=> ?_;have HSD:=hqz9 (HS1.out.trans ⟨⟨hgd.os,hgd.tape,hgd.output,hgd.size,fun i hi _=>hgd.block i hi sm0⟩,HS1.2.kept hgd nx0⟩);have HLD:=hqz9 (HL1.grown hgd nx0 i20);have HRD1:=kp0 HR1 hgd;have HRD2:=kp0 HR2 hgd;clear hh hgd c1 c3;refine lkQ ?_;go_wp2_with (go_at_call 12;refine(next25_any sb N wd HSD.2 om0 om0).mono ?_;rintro e w2⟨⟨r,rfl,hr0,hr1⟩,hs2⟩;have HS2:=hqz9 (HSD.out.trans hs2);have HL2:=hqz9 (HLD.grown hs2.1 (fun r e=>by cases e;simp) i20);have HQ1:=hqz9 (hs2.row HRD1 om0);have HQ2:=hqz9 (hs2.row HRD2 om0);clear hs2)
  have c1:=HQ1.k1;refine QN_keep c1 fun hS=> ?_;obtain⟨k,rfl⟩:=nat_of hr0;have hkN:k<N:=om0;obtain⟨b,o,x,rfl,e0,e1,hmem⟩:=arr_at HL2.out (show k<l.length by rw[←HN.out];exact hkN);have HM:=hqz9 hmem;clear hmem;refine lkA ?_;refine wpOrd_turn ?_;go_wp2;refine QN_keep c1 fun hS=> ?_
  refine wpOrd_last ?_;clear hS c1 e0 e1;refine store_first 60 (.tmp 4) (.tmp 28) rfl ?_;refine wpList_store_row rfl 60 (.tmp 4) (.tmp 28) rfl (W.heap.size+1) _ rfl rfl 60 #[S [],I 0] HQ2.out kr0 rf0 sv0 ?_;go_wp2;refine QN_normal (wpOrd_nil ?_);go_wp2;refine bodyPost_ret (results_cell_row rfl _ _ (W.heap.size+1) 60 _ (0,0) _ rfl (setRow_heap _ _ _ _ _ _ HQ2.out) Tryz.underlying60 rfl kr0) rfl ?_;exact⟨⟨x.name,x.size,rfl,fun _=>⟨x,HM,rfl⟩,se1⟩,HD _ _ _ HS2⟩
end
end Go.Proofs.YtngglbakkedaiaaGreatDoor
