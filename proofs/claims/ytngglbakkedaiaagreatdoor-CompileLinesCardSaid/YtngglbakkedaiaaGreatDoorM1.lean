import Derived.Test.YtngglbakkedaiaaGreatDoorM0
set_option linter.all false
namespace Go.Proofs.YtngglbakkedaiaaGreatDoor
open Go.RowKit Go.Shelf
attribute [local go_sem] Oper.semAt_some
set_option maxRecDepth 100000 in
set_option maxHeartbeats 2000000 in
theorem only_num_no (op n:Int) (nm:Str) (av:Value) (h1: ¬0≤n) (w:World):
  CR 240 #[.agg #[I 1,I op,I n,S nm,av]] w (.tuple #[.agg #[I 1,I 0,I n,S [], .slice none 0 0],I 0, .bool false]):=by
 have h1b:decide (0≤n)=false:=by simpa using h1
 go_enter Tryz.func240,Tryz.ntmps240;go_upto_region 2 with(refine sr 57 (.tmp 2) (.tmp 7) (w.heap.size+1) eZ ha0 ?_)
 obtain⟨w1,hw1⟩:∃w1,w1=((w.alloc (.cells #[I 1,I op,I n,S nm,av] 57)).alloc (.cells eZ 57)).setRow (w,1) #[I 1,I 0,I 0,S [], .slice none 0 0]:=⟨_,rfl⟩;have hb1:Below w w w1:=by rw[hw1];exact((below_a1 w _).alloc sm0 _).grown setRow_grown so0 sx0
 have hB:Row w1 w 57 [I 1,I op,I n,S nm,av]:=by rw[hw1];exact(setRow_other _ _ _ _ om0).trans (ho0 hn0)
 have hX:Row w1 (w,1) 57 [I 1,I 0,I 0,S [], .slice none 0 0]:=by rw[hw1];exact setRow_heap _ _ _ _ _ _ ha0
 rw[←hw1];clear hw1;have b0:=hB.k0;have b2:=hB.k2;have x2:=hX.k2;have f2:=hX.frozen 2;have HB:=hqz9 hB;have HX:=hqz9 hX;have HB1:=hqz9 hb1;clear hB hX hb1;go_upto_region 5 with(fail)
 have hg2:=setCell_grown w1 (w,1) 2 (I n);have HX2:=hqz9 (HX.set 2 (I n));have HB2:=kp0 HB hg2;have HC2:=gw0 HB1 hg2;have⟨w2,hw2⟩:=xq (w1.setCell (w,1,2) (I n));rw[←hw2]at HX2 HB2 HC2⊢;clear hw2 hg2 b0 b2 x2 f2;refine rW0 (fun W=>W.cell? (w,2)=some (I n)∧W.cell? (w,1,0)=some (I 1)∧W.cell? (w,1,1)=some (I 0)∧W.cell? (w,1,2)=some (I n)∧W.cell? (w,1,3)=some (S [])∧W.cell? (w,1,4)=some (.slice none 0 0)) [0,0,0,0,1,0,0] (fun wd hh=>⟨row_held HB2 hh 2,row_held HX2 hh 0,row_held HX2 hh 1,row_held HX2 hh 2,row_held HX2 hh 3,row_held HX2 hh 4⟩) fun wd hh hgd hS=> ?_;have hXd:=HX2.kept hgd sm0;have HXD:=hqz9 hXd;have HBD:=kp0 HB2 hgd;have HCD:=gw0 HC2 hgd;clear hh hgd hXd;refine lkP ?_;go_wp2_with (refine sr 57 (.tmp 2) (.tmp 15) (w.heap.size+1) #[I 1,I 0,I n,S [], .slice none 0 0] HXD.out ?_)
 have⟨w3,hw3⟩:=xq (wd.setRow (w,1) #[I 1,I 0,I n,S [], .slice none 0 0]);have hg3:wd.grownBy w3 (some (w,1)):=by rw[hw3];exact setRow_grown
 have hx3:Row w3 (w,1) 57 [I 1,I 0,I n,S [], .slice none 0 0]:=by rw[hw3];exact setRow_heap _ _ _ _ _ _ HXD.out
 have hb3:=HBD.kept hg3 sm0;have HC3:=gw0 HCD hg3;rw[←hw3];clear hw3 hg3 hS;refine QN_keep ⟨hb3.cell 2,hx3.cell 0,hx3.cell 1,hx3.cell 2,hx3.cell 3,hx3.cell 4⟩ fun hS=> ?_;have HX3:=hqz9 hx3;clear hx3 hb3;refine lkN ?_;go_wp2;refine bodyPost_ret (only_results rfl HX3 kr0) rfl ?_;exact⟨rfl,HC3⟩
set_option maxRecDepth 100000 in
set_option maxHeartbeats 2000000 in
theorem only_var_any (op n:Int) (nm:Str) (av:Value) (b:Bool) (hN:∀W:World,CR 59 #[S nm] W (.bool b)) (w:World):
  CR 240 #[.agg #[I 2,I op,I n,S nm,av]] w (.tuple #[.agg #[I 2,I 0,I 0,S nm, .slice none 0 0],I 0, .bool b]):=by
 have HNM:=hqz9 hN;clear hN;go_enter Tryz.func240,Tryz.ntmps240;go_upto_region 2 with(refine sr 57 (.tmp 2) (.tmp 7) (w.heap.size+1) eZ ha0 ?_)
 obtain⟨w1,hw1⟩:∃w1,w1=((w.alloc (.cells #[I 2,I op,I n,S nm,av] 57)).alloc (.cells eZ 57)).setRow (w,1) #[I 2,I 0,I 0,S [], .slice none 0 0]:=⟨_,rfl⟩;have hb1:Below w w w1:=by rw[hw1];exact((below_a1 w _).alloc sm0 _).grown setRow_grown so0 sx0
 have hB:Row w1 w 57 [I 2,I op,I n,S nm,av]:=by rw[hw1];exact(setRow_other _ _ _ _ om0).trans (ho0 hn0)
 have hX:Row w1 (w,1) 57 [I 2,I 0,I 0,S [], .slice none 0 0]:=by rw[hw1];exact setRow_heap _ _ _ _ _ _ ha0
 rw[←hw1];clear hw1;have b0:=hB.k0;have b3:=hB.k3;have x3:=hX.k3;have f3:=hX.frozen 3;have HB:=hqz9 hB;have HX:=hqz9 hX;have HB1:=hqz9 hb1;clear hB hX hb1;go_upto_region 8 with(fail)
 have hg2:=setCell_grown w1 (w,1) 3 (S nm);have HX2:=hqz9 (HX.set 3 (S nm));have HB2:=kp0 HB hg2;have HC2:=gw0 HB1 hg2;have⟨w2,hw2⟩:=xq (w1.setCell (w,1,3) (S nm));rw[←hw2]at HX2 HB2 HC2⊢;clear hw2 hg2 b0 b3 x3 f3;refine rW0 (fun W=>W.cell? (w,3)=some (S nm)∧W.cell? (w,1,0)=some (I 2)∧W.cell? (w,1,1)=some (I 0)∧W.cell? (w,1,2)=some (I 0)∧W.cell? (w,1,3)=some (S nm)∧W.cell? (w,1,4)=some (.slice none 0 0)) [0,0,0,1,1,0,0] (fun wd hh=>⟨row_held HB2 hh 3,row_held HX2 hh 0,row_held HX2 hh 1,row_held HX2 hh 2,row_held HX2 hh 3,row_held HX2 hh 4⟩) fun wd hh hgd hS=> ?_;have hXd:=HX2.kept hgd sm0;have HXD:=hqz9 hXd;have HBD:=kp0 HB2 hgd;have HCD:=gw0 HC2 hgd;clear hh hgd hXd;refine lkP ?_;go_wp2_with (go_at_call 59;refine mh0 (HNM wd) fun wc hbc=> ?_;have HXC:=xt0 HXD hbc;have HBC:=xt0 HBD hbc;have HCC:=bt0 HCD hbc;clear hS)
 have hzc:=HCC.size;refine QN_keep ⟨HBC.cell 3,HXC.cell 0,HXC.cell 1,HXC.cell 2,HXC.cell 3,HXC.cell 4⟩ fun hS=> ?_;refine lkE ?_;go_wp2_with (refine sr 57 (.tmp 2) (.tmp 24) (w.heap.size+1) #[I 2,I 0,I 0,S nm, .slice none 0 0] HXC.out ?_)
 have⟨w3,hw3⟩:=xq (wc.setRow (w,1) #[I 2,I 0,I 0,S nm, .slice none 0 0]);have hg3:wc.grownBy w3 (some (w,1)):=by rw[hw3];exact setRow_grown
 have hx3:Row w3 (w,1) 57 [I 2,I 0,I 0,S nm, .slice none 0 0]:=by rw[hw3];exact setRow_heap _ _ _ _ _ _ HXC.out
 have hb3:=HBC.kept hg3 sm0;have HC3:=gw0 HCC hg3;rw[←hw3];clear hw3 hg3 hS;refine QN_keep ⟨hb3.cell 3,hx3.cell 0,hx3.cell 1,hx3.cell 2,hx3.cell 3,hx3.cell 4⟩ fun hS=> ?_;have HX3:=hqz9 hx3;clear hx3 hb3;refine lkN ?_;go_wp2;refine bodyPost_ret (only_results rfl HX3 kr0) rfl ?_;exact⟨rfl,HC3⟩
set_option maxRecDepth 100000 in
set_option maxHeartbeats 2000000 in
theorem only_one_no (op n:Int) (nm:Str) (av:Value) (o1:(op==17)=false) (o2:(op==18)=false) (o3:(op==19)=false) (w:World):
  CR 240 #[.agg #[I 3,I op,I n,S nm,av]] w (.tuple #[.agg #[I 3,I op,I 0,S [], .slice none 0 0],I 1, .bool false]):=by
 go_enter Tryz.func240,Tryz.ntmps240;go_upto_region 2 with(refine sr 57 (.tmp 2) (.tmp 7) (w.heap.size+1) eZ ha0 ?_)
 obtain⟨w1,hw1⟩:∃w1,w1=((w.alloc (.cells #[I 3,I op,I n,S nm,av] 57)).alloc (.cells eZ 57)).setRow (w,1) #[I 3,I 0,I 0,S [], .slice none 0 0]:=⟨_,rfl⟩;have hb1:Below w w w1:=by rw[hw1];exact((below_a1 w _).alloc sm0 _).grown setRow_grown so0 sx0
 have hB:Row w1 w 57 [I 3,I op,I n,S nm,av]:=by rw[hw1];exact(setRow_other _ _ _ _ om0).trans (ho0 hn0)
 have hX:Row w1 (w,1) 57 [I 3,I 0,I 0,S [], .slice none 0 0]:=by rw[hw1];exact setRow_heap _ _ _ _ _ _ ha0
 rw[←hw1];clear hw1;have b0:=hB.k0;have b1:=hB.k1;have x1:=hX.k1;have f1:=hX.frozen 1;have HB:=hqz9 hB;have HX:=hqz9 hX;have HB1:=hqz9 hb1;clear hB hX hb1;go_upto_region 11 with(fail)
 have hg2:=setCell_grown w1 (w,1) 1 (I op);have HX2:=hqz9 (HX.set 1 (I op));have HB2:=kp0 HB hg2;have HC2:=gw0 HB1 hg2;have⟨w2,hw2⟩:=xq (w1.setCell (w,1,1) (I op));rw[←hw2]at HX2 HB2 HC2⊢;clear hw2 hg2 b0 b1 x1 f1;refine rW0 (fun W=>W.cell? (w,1)=some (I op)∧W.cell? (w,1,0)=some (I 3)∧W.cell? (w,1,1)=some (I op)∧W.cell? (w,1,2)=some (I 0)∧W.cell? (w,1,3)=some (S [])∧W.cell? (w,1,4)=some (.slice none 0 0)) [0,0,0,0,0,0,0,0,0,0,0,0,0,0,1,0,0] (fun wd hh=>⟨row_held HB2 hh 1,row_held HX2 hh 0,row_held HX2 hh 1,row_held HX2 hh 2,row_held HX2 hh 3,row_held HX2 hh 4⟩) fun wd hh hgd hS=> ?_;have hXd:=HX2.kept hgd sm0;have HXD:=hqz9 hXd;have HBD:=kp0 HB2 hgd;have HCD:=gw0 HC2 hgd;clear hh hgd hXd;refine lkP ?_;go_wp2_with (refine sr 57 (.tmp 2) (.tmp 33) (w.heap.size+1) #[I 3,I op,I 0,S [], .slice none 0 0] HXD.out ?_)
 have⟨w3,hw3⟩:=xq (wd.setRow (w,1) #[I 3,I op,I 0,S [], .slice none 0 0]);have hg3:wd.grownBy w3 (some (w,1)):=by rw[hw3];exact setRow_grown
 have hx3:Row w3 (w,1) 57 [I 3,I op,I 0,S [], .slice none 0 0]:=by rw[hw3];exact setRow_heap _ _ _ _ _ _ HXD.out
 have hb3:=HBD.kept hg3 sm0;have HC3:=gw0 HCD hg3;rw[←hw3];clear hw3 hg3 hS;refine QN_keep ⟨hb3.cell 1,hx3.cell 0,hx3.cell 1,hx3.cell 2,hx3.cell 3,hx3.cell 4⟩ fun hS=> ?_;have HX3:=hqz9 hx3;clear hx3 hb3;refine lkN ?_;go_wp2;refine bodyPost_ret (only_results rfl HX3 kr0) rfl ?_;exact⟨rfl,HC3⟩
set_option maxRecDepth 100000 in
set_option maxHeartbeats 2000000 in
theorem only_two_no (op n:Int) (nm:Str) (av:Value) (ho: ¬0<levelI op) (w:World):
  CR 240 #[.agg #[I 4,I op,I n,S nm,av]] w (.tuple #[.agg #[I 4,I op,I 0,S [], .slice none 0 0],I 2, .bool false]):=by
 have⟨L,hL⟩:=xq (levelI op);have HLV:=hqz9 (fun W=>level_any op W);rw[←hL]at HLV ho;have hlb:decide (0<L)=false:=by simpa using ho
 clear hL;go_enter Tryz.func240,Tryz.ntmps240;go_upto_region 2 with(refine sr 57 (.tmp 2) (.tmp 7) (w.heap.size+1) eZ ha0 ?_)
 obtain⟨w1,hw1⟩:∃w1,w1=((w.alloc (.cells #[I 4,I op,I n,S nm,av] 57)).alloc (.cells eZ 57)).setRow (w,1) #[I 4,I 0,I 0,S [], .slice none 0 0]:=⟨_,rfl⟩;have hb1:Below w w w1:=by rw[hw1];exact((below_a1 w _).alloc sm0 _).grown setRow_grown so0 sx0
 have hB:Row w1 w 57 [I 4,I op,I n,S nm,av]:=by rw[hw1];exact(setRow_other _ _ _ _ om0).trans (ho0 hn0)
 have hX:Row w1 (w,1) 57 [I 4,I 0,I 0,S [], .slice none 0 0]:=by rw[hw1];exact setRow_heap _ _ _ _ _ _ ha0
 rw[←hw1];clear hw1;have b0:=hB.k0;have b1:=hB.k1;have x1:=hX.k1;have f1:=hX.frozen 1;have HB:=hqz9 hB;have HX:=hqz9 hX;have HB1:=hqz9 hb1;clear hB hX hb1;go_upto_region 14 with(fail)
 have hg2:=setCell_grown w1 (w,1) 1 (I op);have HX2:=hqz9 (HX.set 1 (I op));have HB2:=kp0 HB hg2;have HC2:=gw0 HB1 hg2;have⟨w2,hw2⟩:=xq (w1.setCell (w,1,1) (I op));rw[←hw2]at HX2 HB2 HC2⊢;clear hw2 hg2 b0 b1 x1 f1;refine rW0 (fun W=>W.cell? (w,1)=some (I op)∧W.cell? (w,1,0)=some (I 4)∧W.cell? (w,1,1)=some (I op)∧W.cell? (w,1,2)=some (I 0)∧W.cell? (w,1,3)=some (S [])∧W.cell? (w,1,4)=some (.slice none 0 0)) [0,0,0,1,0,1,0,0] (fun wd hh=>⟨row_held HB2 hh 1,row_held HX2 hh 0,row_held HX2 hh 1,row_held HX2 hh 2,row_held HX2 hh 3,row_held HX2 hh 4⟩) fun wd hh hgd hS=> ?_;have hXd:=HX2.kept hgd sm0;have HXD:=hqz9 hXd;have HBD:=kp0 HB2 hgd;have HCD:=gw0 HC2 hgd;clear hh hgd hXd;refine lkP ?_;go_wp2_with (go_at_call 299;refine mh0 (HLV wd) fun wc hbc=> ?_;have HXC:=xt0 HXD hbc;have HBC:=xt0 HBD hbc;have HCC:=bt0 HCD hbc;clear hS)
 have hzc:=HCC.size;refine QN_keep ⟨HBC.cell 1,HXC.cell 0,HXC.cell 1,HXC.cell 2,HXC.cell 3,HXC.cell 4⟩ fun hS=> ?_;refine lkE ?_;go_wp2_with (refine sr 57 (.tmp 2) (.tmp 52) (w.heap.size+1) #[I 4,I op,I 0,S [], .slice none 0 0] HXC.out ?_)
 have⟨w3,hw3⟩:=xq (wc.setRow (w,1) #[I 4,I op,I 0,S [], .slice none 0 0]);have hg3:wc.grownBy w3 (some (w,1)):=by rw[hw3];exact setRow_grown
 have hx3:Row w3 (w,1) 57 [I 4,I op,I 0,S [], .slice none 0 0]:=by rw[hw3];exact setRow_heap _ _ _ _ _ _ HXC.out
 have hb3:=HBC.kept hg3 sm0;have HC3:=gw0 HCC hg3;rw[←hw3];clear hw3 hg3 hS;refine QN_keep ⟨hb3.cell 1,hx3.cell 0,hx3.cell 1,hx3.cell 2,hx3.cell 3,hx3.cell 4⟩ fun hS=> ?_;have HX3:=hqz9 hx3;clear hx3 hb3;refine lkN ?_;go_wp2;refine bodyPost_ret (only_results rfl HX3 kr0) rfl ?_;exact⟨rfl,HC3⟩
set_option maxRecDepth 100000 in
set_option maxHeartbeats 2000000 in
theorem only_call_no (op n:Int) (nm:Str) (al:Option Addr) (m cl:Nat) (hN:∀W:World,CR 59 #[S nm] W (.bool false)) (w:World):
  CR 240 #[.agg #[I 5,I op,I n,S nm,(.slice al m cl)]] w (.tuple #[.agg #[I 5,I 0,I 0,S nm, .slice none 0 0],I m, .bool false]):=by
 have HNM:=hqz9 hN;clear hN;go_enter Tryz.func240,Tryz.ntmps240;go_upto_region 2 with(refine sr 57 (.tmp 2) (.tmp 7) (w.heap.size+1) eZ ha0 ?_)
 obtain⟨w1,hw1⟩:∃w1,w1=((w.alloc (.cells #[I 5,I op,I n,S nm,(.slice al m cl)] 57)).alloc (.cells eZ 57)).setRow (w,1) #[I 5,I 0,I 0,S [], .slice none 0 0]:=⟨_,rfl⟩;have hb1:Below w w w1:=by rw[hw1];exact((below_a1 w _).alloc sm0 _).grown setRow_grown so0 sx0
 have hB:Row w1 w 57 [I 5,I op,I n,S nm,(.slice al m cl)]:=by rw[hw1];exact(setRow_other _ _ _ _ om0).trans (ho0 hn0)
 have hX:Row w1 (w,1) 57 [I 5,I 0,I 0,S [], .slice none 0 0]:=by rw[hw1];exact setRow_heap _ _ _ _ _ _ ha0
 rw[←hw1];clear hw1;have b0:=hB.k0;have b3:=hB.k3;have x3:=hX.k3;have f3:=hX.frozen 3;have HB:=hqz9 hB;have HX:=hqz9 hX;have HB1:=hqz9 hb1;clear hB hX hb1;go_upto_region 17 with(fail)
 have hg2:=setCell_grown w1 (w,1) 3 (S nm);have HX2:=hqz9 (HX.set 3 (S nm));have HB2:=kp0 HB hg2;have HC2:=gw0 HB1 hg2;have⟨w2,hw2⟩:=xq (w1.setCell (w,1,3) (S nm));rw[←hw2]at HX2 HB2 HC2⊢;clear hw2 hg2 b0 b3 x3 f3;refine rW0 (fun W=>W.cell? (w,3)=some (S nm)∧W.cell? (w,4)=some ((.slice al m cl))∧W.cell? (w,1,0)=some (I 5)∧W.cell? (w,1,1)=some (I 0)∧W.cell? (w,1,2)=some (I 0)∧W.cell? (w,1,3)=some (S nm)∧W.cell? (w,1,4)=some (.slice none 0 0)) [0,0,0,0,0,0,1,0,0,0,0,0,0,1,0,0] (fun wd hh=>⟨row_held HB2 hh 3,row_held HB2 hh 4,row_held HX2 hh 0,row_held HX2 hh 1,row_held HX2 hh 2,row_held HX2 hh 3,row_held HX2 hh 4⟩) fun wd hh hgd hS=> ?_;have hXd:=HX2.kept hgd sm0;have HXD:=hqz9 hXd;have HBD:=kp0 HB2 hgd;have HCD:=gw0 HC2 hgd;clear hh hgd hXd;refine lkP ?_;go_wp2_with (go_at_call 59;refine mh0 (HNM wd) fun wc hbc=> ?_;have HXC:=xt0 HXD hbc;have HBC:=xt0 HBD hbc;have HCC:=bt0 HCD hbc;clear hS)
 have hzc:=HCC.size;refine QN_keep ⟨HBC.cell 3,HBC.cell 4,HXC.cell 0,HXC.cell 1,HXC.cell 2,HXC.cell 3,HXC.cell 4⟩ fun hS=> ?_;refine lkE ?_;go_wp2_with (refine sr 57 (.tmp 2) (.tmp 62) (w.heap.size+1) #[I 5,I 0,I 0,S nm, .slice none 0 0] HXC.out ?_)
 have⟨w3,hw3⟩:=xq (wc.setRow (w,1) #[I 5,I 0,I 0,S nm, .slice none 0 0]);have hg3:wc.grownBy w3 (some (w,1)):=by rw[hw3];exact setRow_grown
 have hx3:Row w3 (w,1) 57 [I 5,I 0,I 0,S nm, .slice none 0 0]:=by rw[hw3];exact setRow_heap _ _ _ _ _ _ HXC.out
 have hb3:=HBC.kept hg3 sm0;have HC3:=gw0 HCC hg3;rw[←hw3];clear hw3 hg3 hS;refine QN_keep ⟨hb3.cell 3,hb3.cell 4,hx3.cell 0,hx3.cell 1,hx3.cell 2,hx3.cell 3,hx3.cell 4⟩ fun hS=> ?_;have HX3:=hqz9 hx3;clear hx3 hb3;refine lkN ?_;go_wp2;refine bodyPost_ret (only_results rfl HX3 kr0) rfl ?_;exact⟨rfl,HC3⟩
set_option maxRecDepth 100000 in
set_option maxHeartbeats 2000000 in
theorem only_call_many (op n:Int) (nm:Str) (al:Option Addr) (m cl:Nat) (hm: ¬m≤6) (hN:∀W:World,CR 59 #[S nm] W (.bool true)) (w:World):
  CR 240 #[.agg #[I 5,I op,I n,S nm,(.slice al m cl)]] w (.tuple #[.agg #[I 5,I 0,I 0,S nm, .slice none 0 0],I m, .bool false]):=by
 have hmd:decide ((m:Int)≤6)=false:=so0;clear hm;have HNM:=hqz9 hN;clear hN;go_enter Tryz.func240,Tryz.ntmps240;go_upto_region 2 with(refine sr 57 (.tmp 2) (.tmp 7) (w.heap.size+1) eZ ha0 ?_)
 obtain⟨w1,hw1⟩:∃w1,w1=((w.alloc (.cells #[I 5,I op,I n,S nm,(.slice al m cl)] 57)).alloc (.cells eZ 57)).setRow (w,1) #[I 5,I 0,I 0,S [], .slice none 0 0]:=⟨_,rfl⟩;have hb1:Below w w w1:=by rw[hw1];exact((below_a1 w _).alloc sm0 _).grown setRow_grown so0 sx0
 have hB:Row w1 w 57 [I 5,I op,I n,S nm,(.slice al m cl)]:=by rw[hw1];exact(setRow_other _ _ _ _ om0).trans (ho0 hn0)
 have hX:Row w1 (w,1) 57 [I 5,I 0,I 0,S [], .slice none 0 0]:=by rw[hw1];exact setRow_heap _ _ _ _ _ _ ha0
 rw[←hw1];clear hw1;have b0:=hB.k0;have b3:=hB.k3;have x3:=hX.k3;have f3:=hX.frozen 3;have HB:=hqz9 hB;have HX:=hqz9 hX;have HB1:=hqz9 hb1;clear hB hX hb1;go_upto_region 17 with(fail)
 have hg2:=setCell_grown w1 (w,1) 3 (S nm);have HX2:=hqz9 (HX.set 3 (S nm));have HB2:=kp0 HB hg2;have HC2:=gw0 HB1 hg2;have⟨w2,hw2⟩:=xq (w1.setCell (w,1,3) (S nm));rw[←hw2]at HX2 HB2 HC2⊢;clear hw2 hg2 b0 b3 x3 f3;refine rW0 (fun W=>W.cell? (w,3)=some (S nm)∧W.cell? (w,4)=some ((.slice al m cl))∧W.cell? (w,1,0)=some (I 5)∧W.cell? (w,1,1)=some (I 0)∧W.cell? (w,1,2)=some (I 0)∧W.cell? (w,1,3)=some (S nm)∧W.cell? (w,1,4)=some (.slice none 0 0)) [0,0,0,0,0,0,1,0,0,0,0,0,0,1,0,0] (fun wd hh=>⟨row_held HB2 hh 3,row_held HB2 hh 4,row_held HX2 hh 0,row_held HX2 hh 1,row_held HX2 hh 2,row_held HX2 hh 3,row_held HX2 hh 4⟩) fun wd hh hgd hS=> ?_;have hXd:=HX2.kept hgd sm0;have HXD:=hqz9 hXd;have HBD:=kp0 HB2 hgd;have HCD:=gw0 HC2 hgd;clear hh hgd hXd;refine lkP ?_;go_wp2_with (go_at_call 59;refine mh0 (HNM wd) fun wc hbc=> ?_;have HXC:=xt0 HXD hbc;have HBC:=xt0 HBD hbc;have HCC:=bt0 HCD hbc;clear hS)
 have hzc:=HCC.size;refine QN_keep ⟨HBC.cell 3,HBC.cell 4,HXC.cell 0,HXC.cell 1,HXC.cell 2,HXC.cell 3,HXC.cell 4⟩ fun hS=> ?_;refine lkE ?_;go_wp2_with (refine sr 57 (.tmp 2) (.tmp 62) (w.heap.size+1) #[I 5,I 0,I 0,S nm, .slice none 0 0] HXC.out ?_)
 have⟨w3,hw3⟩:=xq (wc.setRow (w,1) #[I 5,I 0,I 0,S nm, .slice none 0 0]);have hg3:wc.grownBy w3 (some (w,1)):=by rw[hw3];exact setRow_grown
 have hx3:Row w3 (w,1) 57 [I 5,I 0,I 0,S nm, .slice none 0 0]:=by rw[hw3];exact setRow_heap _ _ _ _ _ _ HXC.out
 have hb3:=HBC.kept hg3 sm0;have HC3:=gw0 HCC hg3;rw[←hw3];clear hw3 hg3 hS;refine QN_keep ⟨hb3.cell 3,hb3.cell 4,hx3.cell 0,hx3.cell 1,hx3.cell 2,hx3.cell 3,hx3.cell 4⟩ fun hS=> ?_;have HX3:=hqz9 hx3;clear hx3 hb3;refine lkN ?_;go_wp2;refine bodyPost_ret (only_results rfl HX3 kr0) rfl ?_;exact⟨rfl,HC3⟩
set_option maxRecDepth 100000 in
set_option maxHeartbeats 2000000 in
theorem only_index_any (op n:Int) (nm:Str) (av:Value) (b:Bool) (hN:∀W:World,CR 59 #[S nm] W (.bool b)) (w:World):
  CR 240 #[.agg #[I 6,I op,I n,S nm,av]] w (.tuple #[.agg #[I 6,I 0,I 0,S nm, .slice none 0 0],I 1, .bool b]):=by
 have HNM:=hqz9 hN;clear hN;go_enter Tryz.func240,Tryz.ntmps240;go_upto_region 2 with(refine sr 57 (.tmp 2) (.tmp 7) (w.heap.size+1) eZ ha0 ?_)
 obtain⟨w1,hw1⟩:∃w1,w1=((w.alloc (.cells #[I 6,I op,I n,S nm,av] 57)).alloc (.cells eZ 57)).setRow (w,1) #[I 6,I 0,I 0,S [], .slice none 0 0]:=⟨_,rfl⟩;have hb1:Below w w w1:=by rw[hw1];exact((below_a1 w _).alloc sm0 _).grown setRow_grown so0 sx0
 have hB:Row w1 w 57 [I 6,I op,I n,S nm,av]:=by rw[hw1];exact(setRow_other _ _ _ _ om0).trans (ho0 hn0)
 have hX:Row w1 (w,1) 57 [I 6,I 0,I 0,S [], .slice none 0 0]:=by rw[hw1];exact setRow_heap _ _ _ _ _ _ ha0
 rw[←hw1];clear hw1;have b0:=hB.k0;have b3:=hB.k3;have x3:=hX.k3;have f3:=hX.frozen 3;have HB:=hqz9 hB;have HX:=hqz9 hX;have HB1:=hqz9 hb1;clear hB hX hb1;go_upto_region 20 with(fail)
 have hg2:=setCell_grown w1 (w,1) 3 (S nm);have HX2:=hqz9 (HX.set 3 (S nm));have HB2:=kp0 HB hg2;have HC2:=gw0 HB1 hg2;have⟨w2,hw2⟩:=xq (w1.setCell (w,1,3) (S nm));rw[←hw2]at HX2 HB2 HC2⊢;clear hw2 hg2 b0 b3 x3 f3;refine rW0 (fun W=>W.cell? (w,3)=some (S nm)∧W.cell? (w,1,0)=some (I 6)∧W.cell? (w,1,1)=some (I 0)∧W.cell? (w,1,2)=some (I 0)∧W.cell? (w,1,3)=some (S nm)∧W.cell? (w,1,4)=some (.slice none 0 0)) [0,0,0,1,1,0,0] (fun wd hh=>⟨row_held HB2 hh 3,row_held HX2 hh 0,row_held HX2 hh 1,row_held HX2 hh 2,row_held HX2 hh 3,row_held HX2 hh 4⟩) fun wd hh hgd hS=> ?_;have hXd:=HX2.kept hgd sm0;have HXD:=hqz9 hXd;have HBD:=kp0 HB2 hgd;have HCD:=gw0 HC2 hgd;clear hh hgd hXd;refine lkP ?_;go_wp2_with (go_at_call 59;refine mh0 (HNM wd) fun wc hbc=> ?_;have HXC:=xt0 HXD hbc;have HBC:=xt0 HBD hbc;have HCC:=bt0 HCD hbc;clear hS)
 have hzc:=HCC.size;refine QN_keep ⟨HBC.cell 3,HXC.cell 0,HXC.cell 1,HXC.cell 2,HXC.cell 3,HXC.cell 4⟩ fun hS=> ?_;refine lkE ?_;go_wp2_with (refine sr 57 (.tmp 2) (.tmp 80) (w.heap.size+1) #[I 6,I 0,I 0,S nm, .slice none 0 0] HXC.out ?_)
 have⟨w3,hw3⟩:=xq (wc.setRow (w,1) #[I 6,I 0,I 0,S nm, .slice none 0 0]);have hg3:wc.grownBy w3 (some (w,1)):=by rw[hw3];exact setRow_grown
 have hx3:Row w3 (w,1) 57 [I 6,I 0,I 0,S nm, .slice none 0 0]:=by rw[hw3];exact setRow_heap _ _ _ _ _ _ HXC.out
 have hb3:=HBC.kept hg3 sm0;have HC3:=gw0 HCC hg3;rw[←hw3];clear hw3 hg3 hS;refine QN_keep ⟨hb3.cell 3,hx3.cell 0,hx3.cell 1,hx3.cell 2,hx3.cell 3,hx3.cell 4⟩ fun hS=> ?_;have HX3:=hqz9 hx3;clear hx3 hb3;refine lkN ?_;go_wp2;refine bodyPost_ret (only_results rfl HX3 kr0) rfl ?_;exact⟨rfl,HC3⟩
set_option maxRecDepth 100000 in
set_option maxHeartbeats 2000000 in
theorem only_none (k op n:Int) (nm:Str) (av:Value) (hk:k<1∨7<k) (w:World):
  CR 240 #[.agg #[I k,I op,I n,S nm,av]] w (.tuple #[.agg #[I k,I 0,I 0,S [], .slice none 0 0],I 0, .bool false]):=by
 have k1:(k==1)=false:=bo0;have k2:(k==2)=false:=bo0;have k3:(k==3)=false:=bo0;have k4:(k==4)=false:=bo0;have k5:(k==5)=false:=bo0;have k6:(k==6)=false:=bo0;have k7:(k==7)=false:=bo0;clear hk;go_enter Tryz.func240,Tryz.ntmps240;go_upto_region 2 with(refine sr 57 (.tmp 2) (.tmp 7) (w.heap.size+1) eZ ha0 ?_)
 obtain⟨w1,hw1⟩:∃w1,w1=((w.alloc (.cells #[I k,I op,I n,S nm,av] 57)).alloc (.cells eZ 57)).setRow (w,1) #[I k,I 0,I 0,S [], .slice none 0 0]:=⟨_,rfl⟩;have hb1:Below w w w1:=by rw[hw1];exact((below_a1 w _).alloc sm0 _).grown setRow_grown so0 sx0
 have hB:Row w1 w 57 [I k,I op,I n,S nm,av]:=by rw[hw1];exact(setRow_other _ _ _ _ om0).trans (ho0 hn0)
 have hX:Row w1 (w,1) 57 [I k,I 0,I 0,S [], .slice none 0 0]:=by rw[hw1];exact setRow_heap _ _ _ _ _ _ ha0
 rw[←hw1];clear hw1;have b0:=hB.k0;have x0:=hX.k0;have x1:=hX.k1;have x2:=hX.k2;have x3:=hX.k3;have x4:=hX.k4;have HX:=hqz9 hX;have HB1:=hqz9 hb1;clear hB hX hb1;go_wp2_with (refine sr 57 (.tmp 2) (.tmp 87) (w.heap.size+1) #[I k,I 0,I 0,S [], .slice none 0 0] HX.out ?_)
 refine bodyPost_ret (only_results rfl (setRow_heap _ _ _ _ _ _ HX.out) kr0) rfl ?_;exact⟨rfl,HB1.grown setRow_grown HB1.size sx0⟩
structure OnlyR where
 op:Int
 n:Int
 name:Str
 args:Nat
 ok:Bool
def onlyR (e:LE):OnlyR:=
 if e.kind=1 then⟨0,e.n,[],0,decide (0≤e.n)⟩else if e.kind=2 then⟨0,0,e.name,0,isName e.name⟩
 else if e.kind=3 then⟨e.op,0,[],1,decide (e.op=17∨e.op=18∨e.op=19)⟩else if e.kind=4 then⟨e.op,0,[],2,decide (1≤e.op∧e.op≤16)⟩
 else if e.kind=5 then⟨0,0,e.name,e.args.length,isName e.name&&decide (e.args.length≤6)⟩else if e.kind=6 then⟨0,0,e.name,1,isName e.name⟩
 else if e.kind=7 then⟨0,0,[],0,true⟩else⟨0,0,[],0,false⟩
theorem levelI_iff (op:Int):0<levelI op↔1≤op∧op≤16:=by
 constructor
 ·intro h;unfold levelI at h
  repeat' split at h
  all_goals omega
 ·exact levelI_pos
theorem onlyE_iff (e:LE) (ha:Asc e.name):onlyE e↔(onlyR e).ok=true∧e.args.length=(onlyR e).args∧(onlyR e).op=e.op∧(onlyR e).n=e.n∧(onlyR e).name=e.name:=by
 obtain⟨k,op,n,nm,l⟩:=e;simp only[LE.name]at ha;simp only[onlyE,onlyR,LE.kind,LE.op,LE.n,LE.name,LE.args];rcases(by omega:k=1∨k=2∨k=3∨k=4∨k=5∨k=6∨k=7∨(k≠1∧k≠2∧k≠3∧k≠4∧k≠5∧k≠6∧k≠7))with rfl|rfl|rfl|rfl|rfl|rfl|rfl|⟨h1,h2,h3,h4,h5,h6,h7⟩
 all_goals simp_all
 all_goals grind
theorem only_any (e:LE) (ha:Asc e.name) (a:Option Addr) (c:Nat) (w:World):
  CR 240 #[eV e (.slice a e.args.length c)] w (.tuple #[.agg #[I e.kind,I (onlyR e).op,I (onlyR e).n,S (onlyR e).name, .slice none 0 0],I (onlyR e).args, .bool (onlyR e).ok]):=by
 obtain⟨k,op,n,nm,l⟩:=e;simp only[LE.name]at ha;have hN:=fun W=>name_any nm ha W;simp only[eV,LE.kind,LE.op,LE.n,LE.name,LE.args];have fin:∀(o' n':Int) (m':Str) (a':Nat) (b':Bool),onlyR (.mk k op n nm l)=⟨o',n',m',a',b'⟩→(CR 240 #[.agg #[I k,I op,I n,S nm, .slice a l.length c]] w (.tuple #[.agg #[I k,I o',I n',S m', .slice none 0 0],I a', .bool b']))→CR 240 #[.agg #[I k,I op,I n,S nm, .slice a l.length c]] w (.tuple #[.agg #[I k,I (onlyR (.mk k op n nm l)).op,I (onlyR (.mk k op n nm l)).n,S (onlyR (.mk k op n nm l)).name, .slice none 0 0],I (onlyR (.mk k op n nm l)).args, .bool (onlyR (.mk k op n nm l)).ok]):=fun o' n' m' a' b' hr hc=>by rw[hr];exact hc
 rcases(by omega:k=1∨k=2∨k=3∨k=4∨k=5∨k=6∨k=7∨(k<1∨7<k))with rfl|rfl|rfl|rfl|rfl|rfl|rfl|hk
 ·by_cases h:0≤n
  ·exact fin 0 n [] 0 true (by simp [onlyR,LE.kind,LE.n,h]) (only_num op n nm (.slice a l.length c) h w)
  ·exact fin 0 n [] 0 false (by unfold onlyR;rw[if_pos (show(LE.mk 1 op n nm l).kind=1 from rfl)];exact congrArg (OnlyR.mk 0 n [] 0) (decide_eq_false h)) (only_num_no op n nm (.slice a l.length c) h w)
 ·exact fin 0 0 nm 0 _ (by simp [onlyR,LE.kind,LE.name]) (only_var_any op n nm (.slice a l.length c) _ hN w)
 ·by_cases h:op=17∨op=18∨op=19
  ·refine fin op 0 [] 1 true (by simp [onlyR,LE.kind,LE.op,h]) ?_;rcases h with rfl|rfl|rfl
   ·exact only_one17 n nm (.slice a l.length c) w
   ·exact only_one18 n nm (.slice a l.length c) w
   ·exact only_one19 n nm (.slice a l.length c) w
  ·exact fin op 0 [] 1 false (by unfold onlyR;rw[if_neg (show¬(LE.mk 3 op n nm l).kind=1 from(by decide: ¬(3:Int)=1)),if_neg (show¬(LE.mk 3 op n nm l).kind=2 from(by decide: ¬(3:Int)=2)),if_pos (show(LE.mk 3 op n nm l).kind=3 from rfl)];exact congrArg (OnlyR.mk op 0 [] 1) (decide_eq_false h)) (only_one_no op n nm (.slice a l.length c) bo0 bo0 bo0 w)
 ·by_cases h:0<levelI op
  ·have h1:=(levelI_iff op).1 h;exact fin op 0 [] 2 true (by simp [onlyR,LE.kind,LE.op,h1]) (only_two op n nm (.slice a l.length c) h w)
  ·have h1: ¬(1≤op∧op≤16):=fun h2=>h ((levelI_iff op).2 h2);exact fin op 0 [] 2 false (by unfold onlyR;rw[if_neg (show¬(LE.mk 4 op n nm l).kind=1 from(by decide: ¬(4:Int)=1)),if_neg (show¬(LE.mk 4 op n nm l).kind=2 from(by decide: ¬(4:Int)=2)),if_neg (show¬(LE.mk 4 op n nm l).kind=3 from(by decide: ¬(4:Int)=3)),if_pos (show(LE.mk 4 op n nm l).kind=4 from rfl)];exact congrArg (OnlyR.mk op 0 [] 2) (decide_eq_false h1)) (only_two_no op n nm (.slice a l.length c) h w)
 ·cases hn:isName nm with
  |false=>
   rw[hn]at hN;exact fin 0 0 nm l.length false (by simp [onlyR,LE.kind,LE.name,LE.args,hn]) (only_call_no op n nm a l.length c hN w)
  |true=>
   by_cases h:l.length≤6
   ·exact fin 0 0 nm l.length true (by simp [onlyR,LE.kind,LE.name,LE.args,hn,h]) (only_call op n nm ha hn a l.length c h w)
   ·rw[hn]at hN;exact fin 0 0 nm l.length false (by simp [onlyR,LE.kind,LE.name,LE.args,hn];exact decide_eq_false_iff_not.2 h) (only_call_many op n nm a l.length c h hN w)
 ·exact fin 0 0 nm 1 _ (by simp [onlyR,LE.kind,LE.name]) (only_index_any op n nm (.slice a l.length c) _ hN w)
 ·exact fin 0 0 [] 0 true (by simp [onlyR,LE.kind]) (only_read op n nm (.slice a l.length c) w)
 ·exact fin 0 0 [] 0 false (by simp [onlyR,LE.kind,show k≠1 by omega,show k≠2 by omega,show k≠3 by omega,show k≠4 by omega,show k≠5 by omega,show k≠6 by omega,show k≠7 by omega]) (only_none k op n nm (.slice a l.length c) hk w)
end Go.Proofs.YtngglbakkedaiaaGreatDoor
