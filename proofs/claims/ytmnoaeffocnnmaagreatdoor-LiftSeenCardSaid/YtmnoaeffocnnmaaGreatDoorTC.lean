import Derived.Test.YtmnoaeffocnnmaaGreatDoorQ0
import Derived.Test.YtmnoaeffocnnmaaGreatDoorSC
namespace Go.Proofs.YtmnoaeffocnnmaaGreatDoor
open Go.RowKit Go.Shelf
attribute [local go_sem] Oper.semAt_some
theorem setRow_grown {w:World} {g:Nat} {cs:Array Value}:w.grownBy (w.setRow g cs) (some g):=⟨rfl,rfl,rfl,sm0,fun i _ hi=>setRow_other _ _ _ _ (fun e=>hi (by rw[e]))⟩
theorem sr {P:Program} {ops:Array Oper} {rest:List Oper} {o:Oper} {a:Act} {w:World} {Q:Exit→Act→World→Prop} {cells:Array Value} (ty:TypeId) (x y:Operand) (g:Nat) (old:Array Value) (hg:w.heap[g]? =some (.cells old ty (0,0))) (h:wpList P ops Q rest (a.put o.dst undef) (w.setRow g cells))
  (ho:o.op= .store ty x y:=by rfl) (hgd:o.guard=none:=by rfl) (hx:a.eval x= .pointer (some (g,0)):=by rfl) (hy:a.eval y= .agg cells:=by rfl) (hi:(P.info? ty).map (·.size)=some cells.size:=by kernel_rfl)
  (hold:old.size=cells.size:=by rfl) (h1:cells.all (·.oneCell')=true:=by simp [Value.oneCell']):wpList P ops Q (o::rest) a w:=wpList_store_row hgd ty x y ho g cells hx hy ty old hg hi hold h1 h
theorem heap_at {w:World} {o:Obj} {k:Nat} (h:k=w.heap.size):(w.alloc o).heap[k]? =some o:=by rw[h];exact heap_new _ _
theorem row_at {n:Nat} {t:TypeId} {w wd:World} {cs:List Value} (hr:Row w n t cs) (hh:wd.heap=w.heap) (j:Nat):wd.cell? (n,j)=cs[j]? :=by
 have:Row wd n t cs:=by unfold Row at*;rw[hh];exact hr
 exact this.cell j
theorem be2 (w:World) (a b:Obj):Below w w ((w.alloc a).alloc b):=(below_a1 w a).alloc (by simp) b
/-- numbers that lie somewhere -/
def Lq (W:World) (v:Value) (l:List Int):Prop:=∃a c,v= .slice a l.length c∧l.length≤140737488351232∧(l= []∨∃b o,a=some ⟨b,o,none⟩∧∀(i:Nat) (x:Int),l[i]? =some x→W.cell? ⟨b,o+i,none⟩=some (I x))
theorem Lq.below {W W':World} {v:Value} {l:List Int} (h:Lq W v l) (hb:Below W W W'):Lq W' v l:=by
 obtain⟨a,c,h1,h2,h3⟩:=h
 refine⟨a,c,h1,h2,h3.imp id ?_⟩
 rintro⟨b,o,h4,h5⟩
 exact⟨b,o,h4,fun i x hx=>gcell (h5 i x hx) (below_grown hb none) (fun e=>by cases e)⟩
theorem Lq.at {W:World} {a:Option Addr} {n c:Nat} {l:List Int} (h:Lq W (.slice a n c) l) {i:Nat} (hi:i<l.length):∃b o,a=some ⟨b,o,none⟩∧W.cell? ⟨b,o+i,none⟩=some (I l[i]):=by
 obtain⟨a',c',h1,_,h3⟩:=h
 obtain⟨rfl,rfl,rfl⟩:a=a'∧n=l.length∧c=c':=by simpa using h1
 rcases h3 with rfl|⟨b,o,rfl,h4⟩
 ·exact absurd hi sm0
 ·exact⟨b,o,rfl,h4 i _ (List.getElem?_eq_getElem hi)⟩
abbrev RunV (st cd:Int) (ov:Value) (n:Int):Value:= .agg #[I st,I cd,ov,I n]
abbrev resZ:Array Value:= #[.int .i64 0, .int .i64 0, .slice none 0 0, .int .i64 0]
/-- an outcome as one who cannot look inside sees it -/
def seenV (st cd:Int) (ov:Value) (sp:Int):Value:= .agg #[I (if st=6 then 5 else st),I (if st=6 then 1099511627776 else cd),ov,I sp]
set_option maxRecDepth 100000 in
set_option maxHeartbeats 4000000 in
theorem seen14 (st cd sp:Int) (oa:Option Addr) (on oc:Nat) (w:World):CR 14 #[.agg #[I st,I cd, .slice oa on oc,I sp]] w (seenV st cd (.slice oa on oc) sp):=by
 have⟨W,hW⟩:=xq ((w.alloc (.cells #[I st,I cd, .slice oa on oc,I sp] 38)).alloc (.cells resZ 38))
 have hwe:=hW.symm
 have HB:Hid (Below w w W):=hqz9 (by rw[hW];exact be2 _ _ _)
 have HX:Hid (Row W w 38 [I st,I cd, .slice oa on oc,I sp]):=hqz9 (by rw[hW];exact heap_old _ _ (heap_new _ _))
 have HZ:Hid (Row W (w.heap.size+1) 38 resZ.toList):=hqz9 (by rw[hW];exact heap_at (by simp))
 have c0:=HX.out.k0;have c1:=HX.out.k1;have c2:=HX.out.k2;have c3:=HX.out.k3
 clear hW
 by_cases h6:st=6
 ·subst h6
  rw[show seenV 6 cd (.slice oa on oc) sp= .agg #[I 5,I 1099511627776, .slice oa on oc,I sp] from rfl]
  have f0:=HX.out.frozen 0;have f1:=(HX.out.set 0 (I 5)).frozen 1
  have d1:=(HX.out.set 0 (I 5)).k1
  go_enter Tryz.func14,Tryz.ntmps14
  go_upto_region 3 with(fail)
  clear c0 c1 c2 c3 f0 f1 d1 hwe
  have⟨W2,hW2⟩:=xq ((W.setCell (w,0) (I 5)).setCell (w,1) (I 1099511627776))
  have hr:Row W2 w 38 [I 5,I 1099511627776, .slice oa on oc,I sp]:=by rw[hW2];exact(HX.out.set 0 (I 5)).set 1 _
  have hz:Row W2 (w.heap.size+1) 38 resZ.toList:=by rw[hW2];exact(HZ.out.kept (setCell_grown _ _ _ _) (by simp)).kept (setCell_grown _ _ _ _) (by simp)
  have hb:Below w w W2:=by
   have h1:=HB.out.grown (setCell_grown W w 0 (I 5)) HB.out.size (fun r e=>by cases e;exact Nat.le_refl _)
   rw[hW2];exact h1.grown (setCell_grown _ _ _ _) h1.size (fun r e=>by cases e;exact Nat.le_refl _)
  rw[←hW2]
  have c0:=hr.k0;have c1:=hr.k1;have c2:=hr.k2;have c3:=hr.k3
  have HB2:=hqz9 hb;have HZ2:=hqz9 hz
  clear hW2 hr hz hb
  go_wp2_with (refine sr 38 (.tmp 2) (.tmp 8) (w.heap.size+1) resZ HZ2.out ?_)
  refine bodyPost_ret (results_cell_row rfl _ _ (w.heap.size+1) 38 _ (0,0) _ rfl (setRow_heap _ _ _ _ _ _ HZ2.out) Tryz.underlying38 rfl kr0) rfl ?_
  exact⟨rfl,HB2.out.grown setRow_grown HB2.out.size (fun r e=>by cases e;omega)⟩
 ·rw[show seenV st cd (.slice oa on oc) sp= .agg #[I st,I cd, .slice oa on oc,I sp] by simp [seenV,h6]]
  go_enter Tryz.func14,Tryz.ntmps14
  go_wp2_with (refine sr 38 (.tmp 2) (.tmp 8) (w.heap.size+1) resZ HZ.out ?_)
  refine bodyPost_ret (results_cell_row rfl _ _ (w.heap.size+1) 38 _ (0,0) _ rfl (setRow_heap _ _ _ _ _ _ HZ.out) Tryz.underlying38 rfl kr0) rfl ?_
  exact⟨rfl,HB.out.grown setRow_grown HB.out.size (fun r e=>by cases e;omega)⟩
set_option maxRecDepth 100000 in
set_option maxHeartbeats 8000000 in
theorem same_yes (st cd n:Int) (l:List Int) (v1 v2:Value) (W:World) (h1:Lq W v1 l) (h2:Lq W v2 l):
  CR 15 #[RunV st cd v1 n,RunV st cd v2 n] W (.bool true):=by
 obtain⟨a1,c1,rfl,hl, -⟩:=id h1;obtain⟨a2,c2,rfl, -⟩:=id h2;have⟨N,hN⟩:=xq l.length;rw[←hN]at h1 h2 hl⊢;obtain⟨w0,hw0⟩:∃w0,w0=(W.alloc (.cells #[I st,I cd, .slice a1 N c1,I n] 38)).alloc (.cells #[I st,I cd, .slice a2 N c2,I n] 38):=⟨_,rfl⟩;have hwe:=hw0.symm;have hb0:Below W W w0:=by rw[hw0];exact below_a2 _ _ _
 have hp0:Row w0 W 38 [I st,I cd, .slice a1 N c1,I n]:=by rw[hw0];exact heap_old _ _ hn0
 have hs0:Row w0 (W,1) 38 [I st,I cd, .slice a2 N c2,I n]:=by rw[hw0];exact heap_at sm0
 have p0:=hp0.k0;have p1:=hp0.k1;have p2:=hp0.k2;have p3:=hp0.k3;have s0:=hs0.k0;have s1:=hs0.k1;have s2:=hs0.k2;have s3:=hs0.k3;have H1:=hqz9 h1;have H2:=hqz9 h2;have HN:=hqz9 hN;have HB0:=hqz9 hb0;have HP:=hqz9 hp0;have HS:=hqz9 hs0;clear h1 h2 hN hw0 hb0 hp0 hs0;go_enter Tryz.func15,Tryz.ntmps15;go_upto_region 3 with(fail)
 clear p0 p1 p2 p3 s0 s1 s2 s3;go_upto_region 4 with(fail)
 go_loopg [5] N (fun gh i wr=>∃k:Nat,gh+k=N∧i=I k∧Hid (Below W W wr∧Row wr W 38 [I st,I cd, .slice a1 N c1,I n]∧Row wr (W,1) 38 [I st,I cd, .slice a2 N c2,I n]))
 case atStart=>exact⟨0,rfl,rfl,hqz9 ⟨HB0,HP,HS⟩⟩
 case round=>
  obtain⟨k,hg,rfl,HH⟩:=hrel;obtain⟨wo,rfl⟩:=xq wr;have p2:=HH.out.2.1.k2;have s2:=HH.out.2.2.k2;by_cases hlt:k<N
  ·have hltz:(k:Int)<(N:Int):=om0;have hkl:k<l.length:=by rw[←HN.out];exact hlt
   obtain⟨b,o,rfl,e1⟩:=(H1.out.below HH.out.1).at hkl;obtain⟨b',o',rfl,e2⟩:=(H2.out.below HH.out.1).at hkl;have⟨x,hx⟩:=xq (l[k]);rw[←hx]at e1 e2;have HE1:=hqz9 e1;have HE2:=hqz9 e2;clear hx e1 e2;go_upto_region 6 with(fail)
   refine rW0 (fun X=>X.cell? (W,2)=some (.slice (some (b,o)) N c1)∧X.cell? (W,1,2)=some (.slice (some (b',o')) N c2)∧X.cell? (b,o+k)=some (I x)∧X.cell? (b',o'+k)=some (I x)) [0,0,0,0,0,0,0,0,0,0,0] (fun wd hh=>⟨row_at HH.out.2.1 hh 2,row_at HH.out.2.2 hh 2,cu0 hh HE1,cu0 hh HE2⟩) fun wd hh hgd hS=> ?_;have HGD:=hqz9 (show Below W W wd∧Row wd W 38 [I st,I cd, .slice (some (b,o)) N c1,I n]∧Row wd (W,1) 38 [I st,I cd, .slice (some (b',o')) N c2,I n]from⟨HH.out.1.grown hgd HH.out.1.size nx0,HH.out.2.1.kept hgd sm0,HH.out.2.2.kept hgd sm0⟩);clear hh hgd p2 s2 HH;refine lkO ?_;refine lkN ?_;clear hS;go_wp2;go_roundg (N - (k+1))
   case measure=>omega
   case rel=>exact⟨k+1,om0,by go_num,HGD⟩
  ·have hltz: ¬(k:Int)<(N:Int):=om0;go_wp2;go_ret;exact⟨rfl,HH.out.1⟩
end Go.Proofs.YtmnoaeffocnnmaaGreatDoor

namespace Go.Proofs.YtmnoaeffocnnmaaGreatDoor
open Go.RowKit Go.Shelf
attribute [local go_sem] Oper.semAt_some
set_option maxRecDepth 100000 in
set_option maxHeartbeats 8000000 in
theorem same_no (st cd n st2 cd2 n2:Int) (hne:st≠st2) (a1 a2:Option Addr) (l1 c1 l2 c2:Nat) (W:World):
  CR 15 #[RunV st cd (.slice a1 l1 c1) n,RunV st2 cd2 (.slice a2 l2 c2) n2] W (.bool false):=by
 obtain⟨w0,hw0⟩:∃w0,w0=(W.alloc (.cells #[I st,I cd, .slice a1 l1 c1,I n] 38)).alloc (.cells #[I st2,I cd2, .slice a2 l2 c2,I n2] 38):=⟨_,rfl⟩
 have hwe:=hw0.symm
 have hb0:Below W W w0:=by rw[hw0];exact below_a2 _ _ _
 have hp0:Row w0 W 38 [I st,I cd, .slice a1 l1 c1,I n]:=by rw[hw0];exact heap_old _ _ hn0
 have hs0:Row w0 (W,1) 38 [I st2,I cd2, .slice a2 l2 c2,I n2]:=by rw[hw0];exact heap_at sm0
 have p0:=hp0.k0;have s0:=hs0.k0
 have HB0:=hqz9 hb0
 clear hw0 hb0 hp0 hs0
 go_enter Tryz.func15,Tryz.ntmps15
 go_wp2
 go_ret
 exact⟨rfl,HB0.out⟩
theorem GIn.below {W W':World} (h:GIn GG W) (hb:Below W W W'):GIn GG W':=by
 obtain⟨c,b,h1,h2⟩:=h
 have hlt:GG.g<W.heap.size:=by
  rcases Nat.lt_or_ge GG.g W.heap.size with h|h
  ·exact h
  ·rw[Array.getElem?_eq_none h]at h1;cases h1
 exact⟨c,b,(hb.block _ hlt).trans h1,h2⟩
end Go.Proofs.YtmnoaeffocnnmaaGreatDoor

namespace Go.Proofs.YtmnoaeffocnnmaaGreatDoor
open Go.RowKit Go.Shelf
attribute [local go_sem] Oper.semAt_some
theorem alloc_row (w:World) (cs:Array Value) (t:TypeId):Row (w.alloc (.cells cs t)) w t cs.toList:=heap_new _ _
/-- what is laid into a new row -/
theorem put_row {w:World} {cs:Array Value} {t:TypeId}:Row ((w.alloc (.cells resZ t)).setRow w.heap.size cs) w t cs.toList∧Below w w ((w.alloc (.cells resZ t)).setRow w.heap.size cs):=
 ⟨setRow_heap _ _ _ _ _ _ (heap_new _ _),(below_a1 w _).grown setRow_grown (below_a1 w _).size (fun r e=>by cases e;exact Nat.le_refl _)⟩
set_option maxRecDepth 100000 in
set_option maxHeartbeats 8000000 in
theorem liftSeen_any (W:World) (hG:GIn GG W) (st cd sp:Int) (v:Value) (l:List Int) (hl:Lq W v l):CR 4 #[RunV st cd v sp] W (.bool true):=by
 obtain⟨a,c,rfl,hlen,-⟩:=id hl
 have⟨N,hN⟩:=xq l.length
 rw[←hN]at hl hlen⊢
 have⟨w0,hw0⟩:=xq (W.alloc (.cells #[I st,I cd, .slice a N c,I sp] 38))
 have hwe:=hw0.symm
 have hb0:Below W W w0:=by rw[hw0];exact below_a1 _ _
 have hr0:Row w0 W 38 [I st,I cd, .slice a N c,I sp]:=by rw[hw0];exact heap_new _ _
 have hlt0:W.heap.size<w0.heap.size:=by rw[hw0];simp
 have HA:=hqz9 (awake_any (hG.below hb0))
 have HB0:=hqz9 hb0;have HR0:=hqz9 hr0;have HL:=hqz9 hl;have HN:=hqz9 hN
 clear hw0 hb0 hr0 hl hG hN
 by_cases h6:st=6
 ·subst h6
  obtain⟨S0,C0,hS6,hS⟩:∃S0 C0:Int,S0≠6∧∀w,CR 14 #[RunV 6 cd (.slice a N c) sp] w (RunV S0 C0 (.slice a N c) sp):=⟨5,1099511627776,by decide,fun w=>seen14 6 cd sp a N c w⟩
  have H14:=hqz9 hS
  have H24:=hqz9 (fun w=>(by have:=seen14 S0 C0 sp a N c w;rwa[show seenV S0 C0 (.slice a N c) sp=RunV S0 C0 (.slice a N c) sp by simp [seenV,hS6]]at this:CR 14 #[RunV S0 C0 (.slice a N c) sp] w (RunV S0 C0 (.slice a N c) sp)))
  have H15:=hqz9 (fun (w:World) (_:Lq w (.slice a N c) l)=>same_no S0 C0 sp 6 cd sp hS6 a a N c N c w)
  have HZ:=hqz9 (fun (w:World) (h:Lq w (.slice a N c) l)=>same_yes S0 C0 sp l _ _ w h h)
  clear hS
  go_enter Tryz.func4,Tryz.ntmps4
  go_upto_region 2 with(go_at_call 13;refine HA.out.mono ?_;rintro e w1⟨rfl,hb1⟩;have HB1:=hqz9 hb1;clear hb1)
  have HR1:=hqz9 (Row.ext HR0.out HB1.out)
  have hlt1:W.heap.size<w1.heap.size:=Nat.lt_of_lt_of_le hlt0 HB1.out.size
  have HW1:=hqz9 (HB0.out.trans (HB1.out.mono HB0.out.size))
  have c0:=HR1.out.k0;have c1:=HR1.out.k1;have c2:=HR1.out.k2;have c3:=HR1.out.k3
  go_upto_region 3 with(first|(go_at_call 14;refine (H14.out w1).mono ?_;rintro e w2⟨rfl,hb2⟩;have HB2:=hqz9 hb2;clear hb2)|(refine sr 38 (.tmp 4) (.tmp 9) w2.heap.size resZ (heap_new _ _) ?_))
  clear c0 c1 c2 c3
  have⟨w3,hw3⟩:=xq ((w2.alloc (.cells resZ 38)).setRow w2.heap.size #[I S0,I C0, .slice a N c,I sp])
  have hp3:Row w3 w2 38 [I S0,I C0, .slice a N c,I sp]∧Below w2 w2 w3:=by rw[hw3];exact put_row
  have HP3:=hqz9 hp3
  have hlt3:w2.heap.size<w3.heap.size:=by rw[hw3];simp [World.setRow]
  rw[←hw3]
  clear hw3 hp3
  have HR3:=hqz9 (Row.ext (Row.ext HR1.out HB2.out) HP3.out.2)
  have d0:=HP3.out.1.k0;have d1:=HP3.out.1.k1;have d2:=HP3.out.1.k2;have d3:=HP3.out.1.k3
  go_upto_region 4 with(first|(go_at_call 14;refine (H24.out w3).mono ?_;rintro e w4⟨rfl,hb4⟩;have HB4:=hqz9 hb4;clear hb4)|(refine sr 38 (.tmp 5) (.tmp 11) w4.heap.size resZ (heap_new _ _) ?_))
  clear d0 d1 d2 d3
  have⟨w5,hw5⟩:=xq ((w4.alloc (.cells resZ 38)).setRow w4.heap.size #[I S0,I C0, .slice a N c,I sp])
  have hp5:Row w5 w4 38 [I S0,I C0, .slice a N c,I sp]∧Below w4 w4 w5:=by rw[hw5];exact put_row
  have HP5:=hqz9 hp5
  rw[←hw5]
  clear hw5 hp5
  have HS5:=hqz9 (Row.ext (Row.ext HP3.out.1 HB4.out) HP5.out.2)
  have HR5:=hqz9 (Row.ext (Row.ext HR3.out HB4.out) HP5.out.2)
  have HW5:=hqz9 ((((HW1.out.trans (HB2.out.mono HW1.out.size)).trans (HP3.out.2.mono (Nat.le_trans HW1.out.size HB2.out.size))).trans (HB4.out.mono (Nat.le_trans HW1.out.size (Nat.le_trans HB2.out.size HP3.out.2.size)))).trans (HP5.out.2.mono (Nat.le_trans HW1.out.size (Nat.le_trans HB2.out.size (Nat.le_trans HP3.out.2.size HB4.out.size)))))
  have c0:=HR5.out.k0;have c1:=HR5.out.k1;have c2:=HR5.out.k2;have c3:=HR5.out.k3
  have d0:=HS5.out.k0;have d1:=HS5.out.k1;have d2:=HS5.out.k2;have d3:=HS5.out.k3
  go_upto_region 5 with(go_at_call 15;refine (H15.out w5 (HL.out.below HW5.out)).mono ?_;rintro e w6⟨rfl,hb6⟩;have HB6:=hqz9 hb6;clear hb6)
  clear c0 c1 c2 c3 d0 d1 d2 d3
  have HS6:=hqz9 (Row.ext HS5.out HB6.out)
  have HR6:=hqz9 (Row.ext HR5.out HB6.out)
  have HT6:=hqz9 (Row.ext HP5.out.1 HB6.out)
  have HW6:=hqz9 (HW5.out.trans (HB6.out.mono HW5.out.size))
  have d0:=HS6.out.k0;have d1:=HS6.out.k1;have d2:=HS6.out.k2;have d3:=HS6.out.k3
  have e0:=HT6.out.k0;have e1:=HT6.out.k1;have e2:=HT6.out.k2;have e3:=HT6.out.k3
  go_wp2_with(go_at_call 15;refine (HZ.out w6 (HL.out.below HW6.out)).mono ?_;rintro e w7⟨rfl,hb7⟩;have HW7:=hqz9 (HW6.out.trans (hb7.mono HW6.out.size));have HS7:=Row.ext HS6.out hb7;have HR7:=Row.ext HR6.out hb7;clear hb7 d0 d1 d2 d3 e0 e1 e2 e3;have c0:=HR7.k0;have c2:=HR7.k2;have c3:=HR7.k3;have d0:=HS7.k0;have d2:=HS7.k2;have d3:=HS7.k3;clear HS7 HR7)
  go_ret
  refine⟨?_,HW7.out⟩
  show Ending.returned (Value.bool (S0 != 6))=_
  rw[bne_iff_ne.2 hS6]
 ·obtain⟨S0,C0,hS6,hS⟩:∃S0 C0:Int,(S0=st∧C0=cd)∧∀w,CR 14 #[RunV st cd (.slice a N c) sp] w (RunV S0 C0 (.slice a N c) sp):=⟨st,cd,⟨rfl,rfl⟩,fun w=>by have:=seen14 st cd sp a N c w;rwa[show seenV st cd (.slice a N c) sp=RunV st cd (.slice a N c) sp by simp [seenV,h6]]at this⟩
  obtain⟨rfl,rfl⟩:=hS6
  have H14:=hqz9 hS;have H24:=hqz9 hS
  have H15:=hqz9 (fun (w:World) (h:Lq w (.slice a N c) l)=>same_yes S0 C0 sp l _ _ w h h)
  have HZ:=H15
  clear hS
  go_enter Tryz.func4,Tryz.ntmps4
  go_upto_region 2 with(go_at_call 13;refine HA.out.mono ?_;rintro e w1⟨rfl,hb1⟩;have HB1:=hqz9 hb1;clear hb1)
  have HR1:=hqz9 (Row.ext HR0.out HB1.out)
  have hlt1:W.heap.size<w1.heap.size:=Nat.lt_of_lt_of_le hlt0 HB1.out.size
  have HW1:=hqz9 (HB0.out.trans (HB1.out.mono HB0.out.size))
  have c0:=HR1.out.k0;have c1:=HR1.out.k1;have c2:=HR1.out.k2;have c3:=HR1.out.k3
  go_upto_region 3 with(first|(go_at_call 14;refine (H14.out w1).mono ?_;rintro e w2⟨rfl,hb2⟩;have HB2:=hqz9 hb2;clear hb2)|(refine sr 38 (.tmp 4) (.tmp 9) w2.heap.size resZ (heap_new _ _) ?_))
  clear c0 c1 c2 c3
  have⟨w3,hw3⟩:=xq ((w2.alloc (.cells resZ 38)).setRow w2.heap.size #[I S0,I C0, .slice a N c,I sp])
  have hp3:Row w3 w2 38 [I S0,I C0, .slice a N c,I sp]∧Below w2 w2 w3:=by rw[hw3];exact put_row
  have HP3:=hqz9 hp3
  have hlt3:w2.heap.size<w3.heap.size:=by rw[hw3];simp [World.setRow]
  rw[←hw3]
  clear hw3 hp3
  have HR3:=hqz9 (Row.ext (Row.ext HR1.out HB2.out) HP3.out.2)
  have d0:=HP3.out.1.k0;have d1:=HP3.out.1.k1;have d2:=HP3.out.1.k2;have d3:=HP3.out.1.k3
  go_upto_region 4 with(first|(go_at_call 14;refine (H24.out w3).mono ?_;rintro e w4⟨rfl,hb4⟩;have HB4:=hqz9 hb4;clear hb4)|(refine sr 38 (.tmp 5) (.tmp 11) w4.heap.size resZ (heap_new _ _) ?_))
  clear d0 d1 d2 d3
  have⟨w5,hw5⟩:=xq ((w4.alloc (.cells resZ 38)).setRow w4.heap.size #[I S0,I C0, .slice a N c,I sp])
  have hp5:Row w5 w4 38 [I S0,I C0, .slice a N c,I sp]∧Below w4 w4 w5:=by rw[hw5];exact put_row
  have HP5:=hqz9 hp5
  rw[←hw5]
  clear hw5 hp5
  have HS5:=hqz9 (Row.ext (Row.ext HP3.out.1 HB4.out) HP5.out.2)
  have HR5:=hqz9 (Row.ext (Row.ext HR3.out HB4.out) HP5.out.2)
  have HW5:=hqz9 ((((HW1.out.trans (HB2.out.mono HW1.out.size)).trans (HP3.out.2.mono (Nat.le_trans HW1.out.size HB2.out.size))).trans (HB4.out.mono (Nat.le_trans HW1.out.size (Nat.le_trans HB2.out.size HP3.out.2.size)))).trans (HP5.out.2.mono (Nat.le_trans HW1.out.size (Nat.le_trans HB2.out.size (Nat.le_trans HP3.out.2.size HB4.out.size)))))
  have c0:=HR5.out.k0;have c1:=HR5.out.k1;have c2:=HR5.out.k2;have c3:=HR5.out.k3
  have d0:=HS5.out.k0;have d1:=HS5.out.k1;have d2:=HS5.out.k2;have d3:=HS5.out.k3
  go_upto_region 5 with(go_at_call 15;refine (H15.out w5 (HL.out.below HW5.out)).mono ?_;rintro e w6⟨rfl,hb6⟩;have HB6:=hqz9 hb6;clear hb6)
  clear c0 c1 c2 c3 d0 d1 d2 d3
  have HS6:=hqz9 (Row.ext HS5.out HB6.out)
  have HR6:=hqz9 (Row.ext HR5.out HB6.out)
  have HT6:=hqz9 (Row.ext HP5.out.1 HB6.out)
  have HW6:=hqz9 (HW5.out.trans (HB6.out.mono HW5.out.size))
  have d0:=HS6.out.k0;have d1:=HS6.out.k1;have d2:=HS6.out.k2;have d3:=HS6.out.k3
  have e0:=HT6.out.k0;have e1:=HT6.out.k1;have e2:=HT6.out.k2;have e3:=HT6.out.k3
  go_wp2_with(go_at_call 15;refine (HZ.out w6 (HL.out.below HW6.out)).mono ?_;rintro e w7⟨rfl,hb7⟩;have HW7:=hqz9 (HW6.out.trans (hb7.mono HW6.out.size));have HS7:=Row.ext HS6.out hb7;have HR7:=Row.ext HR6.out hb7;clear hb7 d0 d1 d2 d3 e0 e1 e2 e3;have c0:=HR7.k0;have c2:=HR7.k2;have c3:=HR7.k3;have d0:=HS7.k0;have d2:=HS7.k2;have d3:=HS7.k3;clear HS7 HR7)
  go_ret
  refine⟨?_,HW7.out⟩
  show Ending.returned (Value.bool (S0 != 6))=_
  rw[bne_iff_ne.2 h6]
end Go.Proofs.YtmnoaeffocnnmaaGreatDoor
