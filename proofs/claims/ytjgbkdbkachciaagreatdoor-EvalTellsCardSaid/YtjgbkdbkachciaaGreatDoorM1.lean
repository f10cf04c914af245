import Derived.Test.YtjgbkdbkachciaaGreatDoorP8
set_option linter.all false
namespace Go.Proofs.YtjgbkdbkachciaaGreatDoor
set_option maxRecDepth 100000
set_option maxHeartbeats 16000000
section
open Go.RowKit Go.Shelf
attribute [local go_sem] Oper.semAt_some
theorem afp (op n:Int) (nm:aK) (av:Value) (h1: ¬0<=n) (w:World):
  CR 102 #[.agg #[I 1,I op,I n,S nm,av]] w (.tuple #[.agg #[I 1,I 0,I n,S [], .slice none 0 0],I 0, .bool false]):=by
 have h1b:decide (0<=n)=false:=by simpa using h1
 go_enter Tryz.func102,Tryz.ntmps102;go_upto_region 2 with(refine sr 31 (.tmp 2) (.tmp 7) (w.heap.size+1) eZ ha0 ?_)
 obtain⟨w1,hw1⟩:∃w1,w1=((w.alloc (.cells #[I 1,I op,I n,S nm,av] 31)).alloc (.cells eZ 31)).setRow (w,1) #[I 1,I 0,I 0,S [], .slice none 0 0]:=⟨_,rfl⟩;have hb1:Below w w w1:=by rw[hw1];exact((cm w _).alloc aH _).grown bJ ct bh
 have hB:Row w1 w 31 [I 1,I op,I n,S nm,av]:=by rw[hw1];exact(setRow_other _ _ _ _ aG).trans (ho0 hn0)
 have hX:Row w1 (w,1) 31 [I 1,I 0,I 0,S [], .slice none 0 0]:=by rw[hw1];exact setRow_heap _ _ _ _ _ _ ha0
 rw[<-hw1];clear hw1;have b0:=hB.k0;have b2:=hB.k2;have x2:=hX.k2;have f2:=hX.frozen 2;have HB:=aF hB;have HX:=aF hX;have aI:=aF hb1;clear hB hX hb1;go_upto_region 5 with(fail)
 have hg2:=bO w1 (w,1) 2 (I n);have aY:=aF (HX.set 2 (I n));have aM:=bI HB hg2;have eY:=dF aI hg2;have⟨w2,hw2⟩:=xq (w1.setCell (w,1,2) (I n));rw[<-hw2]at aY aM eY|-;clear hw2 hg2 b0 b2 x2 f2;refine cC (λW=>W.cell? (w,2)=some (I n)/\W.cell? (w,1,0)=some (I 1)/\W.cell? (w,1,1)=some (I 0)/\W.cell? (w,1,2)=some (I n)/\W.cell? (w,1,3)=some (S [])/\W.cell? (w,1,4)=some (.slice none 0 0)) [0,0,0,0,1,0,0] (λwd hh=>⟨cQ aM hh 2,cQ aY hh 0,cQ aY hh 1,cQ aY hh 2,cQ aY hh 3,cQ aY hh 4⟩) λwd hh hgd hS=> ?_;have jo:=aY.kept hgd aH;have bN:=aF jo;have bE:=bI aM hgd;have fK:=dF eY hgd;clear hh hgd jo;refine dS ?_;go_wp2_with (refine sr 31 (.tmp 2) (.tmp 15) (w.heap.size+1) #[I 1,I 0,I n,S [], .slice none 0 0] bN.out ?_)
 have⟨w3,hw3⟩:=xq (wd.setRow (w,1) #[I 1,I 0,I n,S [], .slice none 0 0]);have hg3:wd.grownBy w3 (some (w,1)):=by rw[hw3];exact bJ
 have hx3:Row w3 (w,1) 31 [I 1,I 0,I n,S [], .slice none 0 0]:=by rw[hw3];exact setRow_heap _ _ _ _ _ _ bN.out
 have hb3:=bE.kept hg3 aH;have bk:=dF fK hg3;rw[<-hw3];clear hw3 hg3 hS;refine bw ⟨hb3.cell 2,hx3.cell 0,hx3.cell 1,hx3.cell 2,hx3.cell 3,hx3.cell 4⟩ λhS=> ?_;have bq:=aF hx3;clear hx3 hb3;refine dP ?_;go_wp2;refine bodyPost_ret (tX rfl bq aL) rfl ?_;exact⟨rfl,bk⟩
theorem ae' (op n:Int) (nm:aK) (av:Value) (b:Bool) (hN:∀W:World,CR 117 #[S nm] W (.bool b)) (w:World):
  CR 102 #[.agg #[I 2,I op,I n,S nm,av]] w (.tuple #[.agg #[I 2,I 0,I 0,S nm, .slice none 0 0],I 0, .bool b]):=by
 have cv:=aF hN;clear hN;go_enter Tryz.func102,Tryz.ntmps102;go_upto_region 2 with(refine sr 31 (.tmp 2) (.tmp 7) (w.heap.size+1) eZ ha0 ?_)
 obtain⟨w1,hw1⟩:∃w1,w1=((w.alloc (.cells #[I 2,I op,I n,S nm,av] 31)).alloc (.cells eZ 31)).setRow (w,1) #[I 2,I 0,I 0,S [], .slice none 0 0]:=⟨_,rfl⟩;have hb1:Below w w w1:=by rw[hw1];exact((cm w _).alloc aH _).grown bJ ct bh
 have hB:Row w1 w 31 [I 2,I op,I n,S nm,av]:=by rw[hw1];exact(setRow_other _ _ _ _ aG).trans (ho0 hn0)
 have hX:Row w1 (w,1) 31 [I 2,I 0,I 0,S [], .slice none 0 0]:=by rw[hw1];exact setRow_heap _ _ _ _ _ _ ha0
 rw[<-hw1];clear hw1;have b0:=hB.k0;have b3:=hB.k3;have x3:=hX.k3;have f3:=hX.frozen 3;have HB:=aF hB;have HX:=aF hX;have aI:=aF hb1;clear hB hX hb1;go_upto_region 8 with(fail)
 have hg2:=bO w1 (w,1) 3 (S nm);have aY:=aF (HX.set 3 (S nm));have aM:=bI HB hg2;have eY:=dF aI hg2;have⟨w2,hw2⟩:=xq (w1.setCell (w,1,3) (S nm));rw[<-hw2]at aY aM eY|-;clear hw2 hg2 b0 b3 x3 f3;refine cC (λW=>W.cell? (w,3)=some (S nm)/\W.cell? (w,1,0)=some (I 2)/\W.cell? (w,1,1)=some (I 0)/\W.cell? (w,1,2)=some (I 0)/\W.cell? (w,1,3)=some (S nm)/\W.cell? (w,1,4)=some (.slice none 0 0)) [0,0,0,1,1,0,0] (λwd hh=>⟨cQ aM hh 3,cQ aY hh 0,cQ aY hh 1,cQ aY hh 2,cQ aY hh 3,cQ aY hh 4⟩) λwd hh hgd hS=> ?_;have jo:=aY.kept hgd aH;have bN:=aF jo;have bE:=bI aM hgd;have fK:=dF eY hgd;clear hh hgd jo;refine dS ?_;go_wp2_with (go_at_call 117;refine aN (cv wd) λwc hbc=> ?_;have dH:=bA bN hbc;have fY:=bA bE hbc;have kT:=aU fK hbc;clear hS)
 have I0:=kT.size;refine bw ⟨fY.cell 3,dH.cell 0,dH.cell 1,dH.cell 2,dH.cell 3,dH.cell 4⟩ λhS=> ?_;refine wX ?_;go_wp2_with (refine sr 31 (.tmp 2) (.tmp 24) (w.heap.size+1) #[I 2,I 0,I 0,S nm, .slice none 0 0] dH.out ?_)
 have⟨w3,hw3⟩:=xq (wc.setRow (w,1) #[I 2,I 0,I 0,S nm, .slice none 0 0]);have hg3:wc.grownBy w3 (some (w,1)):=by rw[hw3];exact bJ
 have hx3:Row w3 (w,1) 31 [I 2,I 0,I 0,S nm, .slice none 0 0]:=by rw[hw3];exact setRow_heap _ _ _ _ _ _ dH.out
 have hb3:=fY.kept hg3 aH;have bk:=dF kT hg3;rw[<-hw3];clear hw3 hg3 hS;refine bw ⟨hb3.cell 3,hx3.cell 0,hx3.cell 1,hx3.cell 2,hx3.cell 3,hx3.cell 4⟩ λhS=> ?_;have bq:=aF hx3;clear hx3 hb3;refine dP ?_;go_wp2;refine bodyPost_ret (tX rfl bq aL) rfl ?_;exact⟨rfl,bk⟩
theorem afq (op n:Int) (nm:aK) (av:Value) (o1:(op==17)=false) (o2:(op==18)=false) (o3:(op==19)=false) (w:World):
  CR 102 #[.agg #[I 3,I op,I n,S nm,av]] w (.tuple #[.agg #[I 3,I op,I 0,S [], .slice none 0 0],I 1, .bool false]):=by
 go_enter Tryz.func102,Tryz.ntmps102;go_upto_region 2 with(refine sr 31 (.tmp 2) (.tmp 7) (w.heap.size+1) eZ ha0 ?_)
 obtain⟨w1,hw1⟩:∃w1,w1=((w.alloc (.cells #[I 3,I op,I n,S nm,av] 31)).alloc (.cells eZ 31)).setRow (w,1) #[I 3,I 0,I 0,S [], .slice none 0 0]:=⟨_,rfl⟩;have hb1:Below w w w1:=by rw[hw1];exact((cm w _).alloc aH _).grown bJ ct bh
 have hB:Row w1 w 31 [I 3,I op,I n,S nm,av]:=by rw[hw1];exact(setRow_other _ _ _ _ aG).trans (ho0 hn0)
 have hX:Row w1 (w,1) 31 [I 3,I 0,I 0,S [], .slice none 0 0]:=by rw[hw1];exact setRow_heap _ _ _ _ _ _ ha0
 rw[<-hw1];clear hw1;have b0:=hB.k0;have b1:=hB.k1;have x1:=hX.k1;have f1:=hX.frozen 1;have HB:=aF hB;have HX:=aF hX;have aI:=aF hb1;clear hB hX hb1;go_upto_region 11 with(fail)
 have hg2:=bO w1 (w,1) 1 (I op);have aY:=aF (HX.set 1 (I op));have aM:=bI HB hg2;have eY:=dF aI hg2;have⟨w2,hw2⟩:=xq (w1.setCell (w,1,1) (I op));rw[<-hw2]at aY aM eY|-;clear hw2 hg2 b0 b1 x1 f1;refine cC (λW=>W.cell? (w,1)=some (I op)/\W.cell? (w,1,0)=some (I 3)/\W.cell? (w,1,1)=some (I op)/\W.cell? (w,1,2)=some (I 0)/\W.cell? (w,1,3)=some (S [])/\W.cell? (w,1,4)=some (.slice none 0 0)) [0,0,0,0,0,0,0,0,0,0,0,0,0,0,1,0,0] (λwd hh=>⟨cQ aM hh 1,cQ aY hh 0,cQ aY hh 1,cQ aY hh 2,cQ aY hh 3,cQ aY hh 4⟩) λwd hh hgd hS=> ?_;have jo:=aY.kept hgd aH;have bN:=aF jo;have bE:=bI aM hgd;have fK:=dF eY hgd;clear hh hgd jo;refine dS ?_;go_wp2_with (refine sr 31 (.tmp 2) (.tmp 33) (w.heap.size+1) #[I 3,I op,I 0,S [], .slice none 0 0] bN.out ?_)
 have⟨w3,hw3⟩:=xq (wd.setRow (w,1) #[I 3,I op,I 0,S [], .slice none 0 0]);have hg3:wd.grownBy w3 (some (w,1)):=by rw[hw3];exact bJ
 have hx3:Row w3 (w,1) 31 [I 3,I op,I 0,S [], .slice none 0 0]:=by rw[hw3];exact setRow_heap _ _ _ _ _ _ bN.out
 have hb3:=bE.kept hg3 aH;have bk:=dF fK hg3;rw[<-hw3];clear hw3 hg3 hS;refine bw ⟨hb3.cell 1,hx3.cell 0,hx3.cell 1,hx3.cell 2,hx3.cell 3,hx3.cell 4⟩ λhS=> ?_;have bq:=aF hx3;clear hx3 hb3;refine dP ?_;go_wp2;refine bodyPost_ret (tX rfl bq aL) rfl ?_;exact⟨rfl,bk⟩
theorem afr (op n:Int) (nm:aK) (av:Value) (ho: ¬0<nT op) (w:World):
  CR 102 #[.agg #[I 4,I op,I n,S nm,av]] w (.tuple #[.agg #[I 4,I op,I 0,S [], .slice none 0 0],I 2, .bool false]):=by
 have⟨L,hL⟩:=xq (nT op);have CZ:=aF (λW=>JK op W);rw[<-hL]at CZ ho;have hlb:decide (0<L)=false:=by simpa using ho
 clear hL;go_enter Tryz.func102,Tryz.ntmps102;go_upto_region 2 with(refine sr 31 (.tmp 2) (.tmp 7) (w.heap.size+1) eZ ha0 ?_)
 obtain⟨w1,hw1⟩:∃w1,w1=((w.alloc (.cells #[I 4,I op,I n,S nm,av] 31)).alloc (.cells eZ 31)).setRow (w,1) #[I 4,I 0,I 0,S [], .slice none 0 0]:=⟨_,rfl⟩;have hb1:Below w w w1:=by rw[hw1];exact((cm w _).alloc aH _).grown bJ ct bh
 have hB:Row w1 w 31 [I 4,I op,I n,S nm,av]:=by rw[hw1];exact(setRow_other _ _ _ _ aG).trans (ho0 hn0)
 have hX:Row w1 (w,1) 31 [I 4,I 0,I 0,S [], .slice none 0 0]:=by rw[hw1];exact setRow_heap _ _ _ _ _ _ ha0
 rw[<-hw1];clear hw1;have b0:=hB.k0;have b1:=hB.k1;have x1:=hX.k1;have f1:=hX.frozen 1;have HB:=aF hB;have HX:=aF hX;have aI:=aF hb1;clear hB hX hb1;go_upto_region 14 with(fail)
 have hg2:=bO w1 (w,1) 1 (I op);have aY:=aF (HX.set 1 (I op));have aM:=bI HB hg2;have eY:=dF aI hg2;have⟨w2,hw2⟩:=xq (w1.setCell (w,1,1) (I op));rw[<-hw2]at aY aM eY|-;clear hw2 hg2 b0 b1 x1 f1;refine cC (λW=>W.cell? (w,1)=some (I op)/\W.cell? (w,1,0)=some (I 4)/\W.cell? (w,1,1)=some (I op)/\W.cell? (w,1,2)=some (I 0)/\W.cell? (w,1,3)=some (S [])/\W.cell? (w,1,4)=some (.slice none 0 0)) [0,0,0,1,0,1,0,0] (λwd hh=>⟨cQ aM hh 1,cQ aY hh 0,cQ aY hh 1,cQ aY hh 2,cQ aY hh 3,cQ aY hh 4⟩) λwd hh hgd hS=> ?_;have jo:=aY.kept hgd aH;have bN:=aF jo;have bE:=bI aM hgd;have fK:=dF eY hgd;clear hh hgd jo;refine dS ?_;go_wp2_with (go_at_call 144;refine aN (CZ wd) λwc hbc=> ?_;have dH:=bA bN hbc;have fY:=bA bE hbc;have kT:=aU fK hbc;clear hS)
 have I0:=kT.size;refine bw ⟨fY.cell 1,dH.cell 0,dH.cell 1,dH.cell 2,dH.cell 3,dH.cell 4⟩ λhS=> ?_;refine wX ?_;go_wp2_with (refine sr 31 (.tmp 2) (.tmp 52) (w.heap.size+1) #[I 4,I op,I 0,S [], .slice none 0 0] dH.out ?_)
 have⟨w3,hw3⟩:=xq (wc.setRow (w,1) #[I 4,I op,I 0,S [], .slice none 0 0]);have hg3:wc.grownBy w3 (some (w,1)):=by rw[hw3];exact bJ
 have hx3:Row w3 (w,1) 31 [I 4,I op,I 0,S [], .slice none 0 0]:=by rw[hw3];exact setRow_heap _ _ _ _ _ _ dH.out
 have hb3:=fY.kept hg3 aH;have bk:=dF kT hg3;rw[<-hw3];clear hw3 hg3 hS;refine bw ⟨hb3.cell 1,hx3.cell 0,hx3.cell 1,hx3.cell 2,hx3.cell 3,hx3.cell 4⟩ λhS=> ?_;have bq:=aF hx3;clear hx3 hb3;refine dP ?_;go_wp2;refine bodyPost_ret (tX rfl bq aL) rfl ?_;exact⟨rfl,bk⟩
theorem afa (op n:Int) (nm:aK) (al:Option Addr) (m cl:Nat) (hN:∀W:World,CR 117 #[S nm] W (.bool false)) (w:World):
  CR 102 #[.agg #[I 5,I op,I n,S nm,(.slice al m cl)]] w (.tuple #[.agg #[I 5,I 0,I 0,S nm, .slice none 0 0],I m, .bool false]):=by
 have cv:=aF hN;clear hN;go_enter Tryz.func102,Tryz.ntmps102;go_upto_region 2 with(refine sr 31 (.tmp 2) (.tmp 7) (w.heap.size+1) eZ ha0 ?_)
 obtain⟨w1,hw1⟩:∃w1,w1=((w.alloc (.cells #[I 5,I op,I n,S nm,(.slice al m cl)] 31)).alloc (.cells eZ 31)).setRow (w,1) #[I 5,I 0,I 0,S [], .slice none 0 0]:=⟨_,rfl⟩;have hb1:Below w w w1:=by rw[hw1];exact((cm w _).alloc aH _).grown bJ ct bh
 have hB:Row w1 w 31 [I 5,I op,I n,S nm,(.slice al m cl)]:=by rw[hw1];exact(setRow_other _ _ _ _ aG).trans (ho0 hn0)
 have hX:Row w1 (w,1) 31 [I 5,I 0,I 0,S [], .slice none 0 0]:=by rw[hw1];exact setRow_heap _ _ _ _ _ _ ha0
 rw[<-hw1];clear hw1;have b0:=hB.k0;have b3:=hB.k3;have x3:=hX.k3;have f3:=hX.frozen 3;have HB:=aF hB;have HX:=aF hX;have aI:=aF hb1;clear hB hX hb1;go_upto_region 17 with(fail)
 have hg2:=bO w1 (w,1) 3 (S nm);have aY:=aF (HX.set 3 (S nm));have aM:=bI HB hg2;have eY:=dF aI hg2;have⟨w2,hw2⟩:=xq (w1.setCell (w,1,3) (S nm));rw[<-hw2]at aY aM eY|-;clear hw2 hg2 b0 b3 x3 f3;refine cC (λW=>W.cell? (w,3)=some (S nm)/\W.cell? (w,4)=some ((.slice al m cl))/\W.cell? (w,1,0)=some (I 5)/\W.cell? (w,1,1)=some (I 0)/\W.cell? (w,1,2)=some (I 0)/\W.cell? (w,1,3)=some (S nm)/\W.cell? (w,1,4)=some (.slice none 0 0)) [0,0,0,0,0,0,1,0,0,0,0,0,0,1,0,0] (λwd hh=>⟨cQ aM hh 3,cQ aM hh 4,cQ aY hh 0,cQ aY hh 1,cQ aY hh 2,cQ aY hh 3,cQ aY hh 4⟩) λwd hh hgd hS=> ?_;have jo:=aY.kept hgd aH;have bN:=aF jo;have bE:=bI aM hgd;have fK:=dF eY hgd;clear hh hgd jo;refine dS ?_;go_wp2_with (go_at_call 117;refine aN (cv wd) λwc hbc=> ?_;have dH:=bA bN hbc;have fY:=bA bE hbc;have kT:=aU fK hbc;clear hS)
 have I0:=kT.size;refine bw ⟨fY.cell 3,fY.cell 4,dH.cell 0,dH.cell 1,dH.cell 2,dH.cell 3,dH.cell 4⟩ λhS=> ?_;refine wX ?_;go_wp2_with (refine sr 31 (.tmp 2) (.tmp 62) (w.heap.size+1) #[I 5,I 0,I 0,S nm, .slice none 0 0] dH.out ?_)
 have⟨w3,hw3⟩:=xq (wc.setRow (w,1) #[I 5,I 0,I 0,S nm, .slice none 0 0]);have hg3:wc.grownBy w3 (some (w,1)):=by rw[hw3];exact bJ
 have hx3:Row w3 (w,1) 31 [I 5,I 0,I 0,S nm, .slice none 0 0]:=by rw[hw3];exact setRow_heap _ _ _ _ _ _ dH.out
 have hb3:=fY.kept hg3 aH;have bk:=dF kT hg3;rw[<-hw3];clear hw3 hg3 hS;refine bw ⟨hb3.cell 3,hb3.cell 4,hx3.cell 0,hx3.cell 1,hx3.cell 2,hx3.cell 3,hx3.cell 4⟩ λhS=> ?_;have bq:=aF hx3;clear hx3 hb3;refine dP ?_;go_wp2;refine bodyPost_ret (tX rfl bq aL) rfl ?_;exact⟨rfl,bk⟩
theorem aeU (op n:Int) (nm:aK) (al:Option Addr) (m cl:Nat) (hm: ¬m<=6) (hN:∀W:World,CR 117 #[S nm] W (.bool true)) (w:World):
  CR 102 #[.agg #[I 5,I op,I n,S nm,(.slice al m cl)]] w (.tuple #[.agg #[I 5,I 0,I 0,S nm, .slice none 0 0],I m, .bool false]):=by
 have I1:decide ((m:Int)<=6)=false:=ct;clear hm;have cv:=aF hN;clear hN;go_enter Tryz.func102,Tryz.ntmps102;go_upto_region 2 with(refine sr 31 (.tmp 2) (.tmp 7) (w.heap.size+1) eZ ha0 ?_)
 obtain⟨w1,hw1⟩:∃w1,w1=((w.alloc (.cells #[I 5,I op,I n,S nm,(.slice al m cl)] 31)).alloc (.cells eZ 31)).setRow (w,1) #[I 5,I 0,I 0,S [], .slice none 0 0]:=⟨_,rfl⟩;have hb1:Below w w w1:=by rw[hw1];exact((cm w _).alloc aH _).grown bJ ct bh
 have hB:Row w1 w 31 [I 5,I op,I n,S nm,(.slice al m cl)]:=by rw[hw1];exact(setRow_other _ _ _ _ aG).trans (ho0 hn0)
 have hX:Row w1 (w,1) 31 [I 5,I 0,I 0,S [], .slice none 0 0]:=by rw[hw1];exact setRow_heap _ _ _ _ _ _ ha0
 rw[<-hw1];clear hw1;have b0:=hB.k0;have b3:=hB.k3;have x3:=hX.k3;have f3:=hX.frozen 3;have HB:=aF hB;have HX:=aF hX;have aI:=aF hb1;clear hB hX hb1;go_upto_region 17 with(fail)
 have hg2:=bO w1 (w,1) 3 (S nm);have aY:=aF (HX.set 3 (S nm));have aM:=bI HB hg2;have eY:=dF aI hg2;have⟨w2,hw2⟩:=xq (w1.setCell (w,1,3) (S nm));rw[<-hw2]at aY aM eY|-;clear hw2 hg2 b0 b3 x3 f3;refine cC (λW=>W.cell? (w,3)=some (S nm)/\W.cell? (w,4)=some ((.slice al m cl))/\W.cell? (w,1,0)=some (I 5)/\W.cell? (w,1,1)=some (I 0)/\W.cell? (w,1,2)=some (I 0)/\W.cell? (w,1,3)=some (S nm)/\W.cell? (w,1,4)=some (.slice none 0 0)) [0,0,0,0,0,0,1,0,0,0,0,0,0,1,0,0] (λwd hh=>⟨cQ aM hh 3,cQ aM hh 4,cQ aY hh 0,cQ aY hh 1,cQ aY hh 2,cQ aY hh 3,cQ aY hh 4⟩) λwd hh hgd hS=> ?_;have jo:=aY.kept hgd aH;have bN:=aF jo;have bE:=bI aM hgd;have fK:=dF eY hgd;clear hh hgd jo;refine dS ?_;go_wp2_with (go_at_call 117;refine aN (cv wd) λwc hbc=> ?_;have dH:=bA bN hbc;have fY:=bA bE hbc;have kT:=aU fK hbc;clear hS)
 have I0:=kT.size;refine bw ⟨fY.cell 3,fY.cell 4,dH.cell 0,dH.cell 1,dH.cell 2,dH.cell 3,dH.cell 4⟩ λhS=> ?_;refine wX ?_;go_wp2_with (refine sr 31 (.tmp 2) (.tmp 62) (w.heap.size+1) #[I 5,I 0,I 0,S nm, .slice none 0 0] dH.out ?_)
 have⟨w3,hw3⟩:=xq (wc.setRow (w,1) #[I 5,I 0,I 0,S nm, .slice none 0 0]);have hg3:wc.grownBy w3 (some (w,1)):=by rw[hw3];exact bJ
 have hx3:Row w3 (w,1) 31 [I 5,I 0,I 0,S nm, .slice none 0 0]:=by rw[hw3];exact setRow_heap _ _ _ _ _ _ dH.out
 have hb3:=fY.kept hg3 aH;have bk:=dF kT hg3;rw[<-hw3];clear hw3 hg3 hS;refine bw ⟨hb3.cell 3,hb3.cell 4,hx3.cell 0,hx3.cell 1,hx3.cell 2,hx3.cell 3,hx3.cell 4⟩ λhS=> ?_;have bq:=aF hx3;clear hx3 hb3;refine dP ?_;go_wp2;refine bodyPost_ret (tX rfl bq aL) rfl ?_;exact⟨rfl,bk⟩
theorem aeV (op n:Int) (nm:aK) (av:Value) (b:Bool) (hN:∀W:World,CR 117 #[S nm] W (.bool b)) (w:World):
  CR 102 #[.agg #[I 6,I op,I n,S nm,av]] w (.tuple #[.agg #[I 6,I 0,I 0,S nm, .slice none 0 0],I 1, .bool b]):=by
 have cv:=aF hN;clear hN;go_enter Tryz.func102,Tryz.ntmps102;go_upto_region 2 with(refine sr 31 (.tmp 2) (.tmp 7) (w.heap.size+1) eZ ha0 ?_)
 obtain⟨w1,hw1⟩:∃w1,w1=((w.alloc (.cells #[I 6,I op,I n,S nm,av] 31)).alloc (.cells eZ 31)).setRow (w,1) #[I 6,I 0,I 0,S [], .slice none 0 0]:=⟨_,rfl⟩;have hb1:Below w w w1:=by rw[hw1];exact((cm w _).alloc aH _).grown bJ ct bh
 have hB:Row w1 w 31 [I 6,I op,I n,S nm,av]:=by rw[hw1];exact(setRow_other _ _ _ _ aG).trans (ho0 hn0)
 have hX:Row w1 (w,1) 31 [I 6,I 0,I 0,S [], .slice none 0 0]:=by rw[hw1];exact setRow_heap _ _ _ _ _ _ ha0
 rw[<-hw1];clear hw1;have b0:=hB.k0;have b3:=hB.k3;have x3:=hX.k3;have f3:=hX.frozen 3;have HB:=aF hB;have HX:=aF hX;have aI:=aF hb1;clear hB hX hb1;go_upto_region 20 with(fail)
 have hg2:=bO w1 (w,1) 3 (S nm);have aY:=aF (HX.set 3 (S nm));have aM:=bI HB hg2;have eY:=dF aI hg2;have⟨w2,hw2⟩:=xq (w1.setCell (w,1,3) (S nm));rw[<-hw2]at aY aM eY|-;clear hw2 hg2 b0 b3 x3 f3;refine cC (λW=>W.cell? (w,3)=some (S nm)/\W.cell? (w,1,0)=some (I 6)/\W.cell? (w,1,1)=some (I 0)/\W.cell? (w,1,2)=some (I 0)/\W.cell? (w,1,3)=some (S nm)/\W.cell? (w,1,4)=some (.slice none 0 0)) [0,0,0,1,1,0,0] (λwd hh=>⟨cQ aM hh 3,cQ aY hh 0,cQ aY hh 1,cQ aY hh 2,cQ aY hh 3,cQ aY hh 4⟩) λwd hh hgd hS=> ?_;have jo:=aY.kept hgd aH;have bN:=aF jo;have bE:=bI aM hgd;have fK:=dF eY hgd;clear hh hgd jo;refine dS ?_;go_wp2_with (go_at_call 117;refine aN (cv wd) λwc hbc=> ?_;have dH:=bA bN hbc;have fY:=bA bE hbc;have kT:=aU fK hbc;clear hS)
 have I0:=kT.size;refine bw ⟨fY.cell 3,dH.cell 0,dH.cell 1,dH.cell 2,dH.cell 3,dH.cell 4⟩ λhS=> ?_;refine wX ?_;go_wp2_with (refine sr 31 (.tmp 2) (.tmp 80) (w.heap.size+1) #[I 6,I 0,I 0,S nm, .slice none 0 0] dH.out ?_)
 have⟨w3,hw3⟩:=xq (wc.setRow (w,1) #[I 6,I 0,I 0,S nm, .slice none 0 0]);have hg3:wc.grownBy w3 (some (w,1)):=by rw[hw3];exact bJ
 have hx3:Row w3 (w,1) 31 [I 6,I 0,I 0,S nm, .slice none 0 0]:=by rw[hw3];exact setRow_heap _ _ _ _ _ _ dH.out
 have hb3:=fY.kept hg3 aH;have bk:=dF kT hg3;rw[<-hw3];clear hw3 hg3 hS;refine bw ⟨hb3.cell 3,hx3.cell 0,hx3.cell 1,hx3.cell 2,hx3.cell 3,hx3.cell 4⟩ λhS=> ?_;have bq:=aF hx3;clear hx3 hb3;refine dP ?_;go_wp2;refine bodyPost_ret (tX rfl bq aL) rfl ?_;exact⟨rfl,bk⟩
theorem agG (k op n:Int) (nm:aK) (av:Value) (hk:k<1\/7<k) (w:World):
  CR 102 #[.agg #[I k,I op,I n,S nm,av]] w (.tuple #[.agg #[I k,I 0,I 0,S [], .slice none 0 0],I 0, .bool false]):=by
 have k1:(k==1)=false:=bD;have k2:(k==2)=false:=bD;have k3:(k==3)=false:=bD;have k4:(k==4)=false:=bD;have k5:(k==5)=false:=bD;have k6:(k==6)=false:=bD;have k7:(k==7)=false:=bD;clear hk;go_enter Tryz.func102,Tryz.ntmps102;go_upto_region 2 with(refine sr 31 (.tmp 2) (.tmp 7) (w.heap.size+1) eZ ha0 ?_)
 obtain⟨w1,hw1⟩:∃w1,w1=((w.alloc (.cells #[I k,I op,I n,S nm,av] 31)).alloc (.cells eZ 31)).setRow (w,1) #[I k,I 0,I 0,S [], .slice none 0 0]:=⟨_,rfl⟩;have hb1:Below w w w1:=by rw[hw1];exact((cm w _).alloc aH _).grown bJ ct bh
 have hB:Row w1 w 31 [I k,I op,I n,S nm,av]:=by rw[hw1];exact(setRow_other _ _ _ _ aG).trans (ho0 hn0)
 have hX:Row w1 (w,1) 31 [I k,I 0,I 0,S [], .slice none 0 0]:=by rw[hw1];exact setRow_heap _ _ _ _ _ _ ha0
 rw[<-hw1];clear hw1;have b0:=hB.k0;have x0:=hX.k0;have x1:=hX.k1;have x2:=hX.k2;have x3:=hX.k3;have x4:=hX.k4;have HX:=aF hX;have aI:=aF hb1;clear hB hX hb1;go_wp2_with (refine sr 31 (.tmp 2) (.tmp 87) (w.heap.size+1) #[I k,I 0,I 0,S [], .slice none 0 0] HX.out ?_)
 refine bodyPost_ret (tX rfl (setRow_heap _ _ _ _ _ _ HX.out) aL) rfl ?_;exact⟨rfl,aI.grown bJ aI.size bh⟩
structure Ob where
 op:Int
 n:Int
 name:aK
 args:Nat
 ok:Bool
def kM (e:LE):Ob:=
 if e.kind=1 then⟨0,e.n,[],0,decide (0<=e.n)⟩else if e.kind=2 then⟨0,0,e.name,0,isName e.name⟩
 else if e.kind=3 then⟨e.op,0,[],1,decide (e.op=17\/e.op=18\/e.op=19)⟩else if e.kind=4 then⟨e.op,0,[],2,decide (1<=e.op/\e.op<=16)⟩
 else if e.kind=5 then⟨0,0,e.name,e.args.length,isName e.name&&decide (e.args.length<=6)⟩else if e.kind=6 then⟨0,0,e.name,1,isName e.name⟩
 else if e.kind=7 then⟨0,0,[],0,true⟩else⟨0,0,[],0,false⟩
theorem X8 (op:Int):0<nT op↔1<=op/\op<=16:=by
 constructor
 ·intro h;unfold nT at h
  repeat' split at h
  all_goals omega
 ·exact af2
theorem agH (e:LE) (ha:eH e.name):DJ e↔(kM e).ok=true/\e.args.length=(kM e).args/\(kM e).op=e.op/\(kM e).n=e.n/\(kM e).name=e.name:=by
 obtain⟨k,op,n,nm,l⟩:=e;simp only[LE.name]at ha;simp only[DJ,kM,LE.kind,LE.op,LE.n,LE.name,LE.args];rcases(by omega:k=1\/k=2\/k=3\/k=4\/k=5\/k=6\/k=7\/(k≠1/\k≠2/\k≠3/\k≠4/\k≠5/\k≠6/\k≠7))with rfl|rfl|rfl|rfl|rfl|rfl|rfl|⟨h1,h2,h3,h4,h5,h6,h7⟩
 all_goals simp_all
 all_goals grind
theorem aho (e:LE) (ha:eH e.name) (a:Option Addr) (c:Nat) (w:World):
  CR 102 #[eV e (.slice a e.args.length c)] w (.tuple #[.agg #[I e.kind,I (kM e).op,I (kM e).n,S (kM e).name, .slice none 0 0],I (kM e).args, .bool (kM e).ok]):=by
 obtain⟨k,op,n,nm,l⟩:=e;simp only[LE.name]at ha;have hN:=λW=>E4 nm ha W;simp only[eV,LE.kind,LE.op,LE.n,LE.name,LE.args];have fin:∀(o' n':Int) (m':aK) (a':Nat) (b':Bool),kM (.mk k op n nm l)=⟨o',n',m',a',b'⟩->(CR 102 #[.agg #[I k,I op,I n,S nm, .slice a l.length c]] w (.tuple #[.agg #[I k,I o',I n',S m', .slice none 0 0],I a', .bool b']))->CR 102 #[.agg #[I k,I op,I n,S nm, .slice a l.length c]] w (.tuple #[.agg #[I k,I (kM (.mk k op n nm l)).op,I (kM (.mk k op n nm l)).n,S (kM (.mk k op n nm l)).name, .slice none 0 0],I (kM (.mk k op n nm l)).args, .bool (kM (.mk k op n nm l)).ok]):=λo' n' m' a' b' hr hc=>by rw[hr];exact hc
 rcases(by omega:k=1\/k=2\/k=3\/k=4\/k=5\/k=6\/k=7\/(k<1\/7<k))with rfl|rfl|rfl|rfl|rfl|rfl|rfl|hk
 ·by_cases h:0<=n
  ·exact fin 0 n [] 0 true (by simp [kM,LE.kind,LE.n,h]) (ahp op n nm (.slice a l.length c) h w)
  ·exact fin 0 n [] 0 false (by unfold kM;rw[if_pos (show(LE.mk 1 op n nm l).kind=1 from rfl)];exact congrArg (Ob.mk 0 n [] 0) (decide_eq_false h)) (afp op n nm (.slice a l.length c) h w)
 ·exact fin 0 0 nm 0 _ (by simp [kM,LE.kind,LE.name]) (ae' op n nm (.slice a l.length c) _ hN w)
 ·by_cases h:op=17\/op=18\/op=19
  ·refine fin op 0 [] 1 true (by simp [kM,LE.kind,LE.op,h]) ?_;rcases h with rfl|rfl|rfl
   ·exact af3 n nm (.slice a l.length c) w
   ·exact af4 n nm (.slice a l.length c) w
   ·exact af5 n nm (.slice a l.length c) w
  ·exact fin op 0 [] 1 false (by unfold kM;rw[if_neg (show¬(LE.mk 3 op n nm l).kind=1 from(by decide: ¬(3:Int)=1)),if_neg (show¬(LE.mk 3 op n nm l).kind=2 from(by decide: ¬(3:Int)=2)),if_pos (show(LE.mk 3 op n nm l).kind=3 from rfl)];exact congrArg (Ob.mk op 0 [] 1) (decide_eq_false h)) (afq op n nm (.slice a l.length c) bD bD bD w)
 ·by_cases h:0<nT op
  ·have h1:=(X8 op).1 h;exact fin op 0 [] 2 true (by simp [kM,LE.kind,LE.op,h1]) (ahq op n nm (.slice a l.length c) h w)
  ·have h1: ¬(1<=op/\op<=16):=λh2=>h ((X8 op).2 h2);exact fin op 0 [] 2 false (by unfold kM;rw[if_neg (show¬(LE.mk 4 op n nm l).kind=1 from(by decide: ¬(4:Int)=1)),if_neg (show¬(LE.mk 4 op n nm l).kind=2 from(by decide: ¬(4:Int)=2)),if_neg (show¬(LE.mk 4 op n nm l).kind=3 from(by decide: ¬(4:Int)=3)),if_pos (show(LE.mk 4 op n nm l).kind=4 from rfl)];exact congrArg (Ob.mk op 0 [] 2) (decide_eq_false h1)) (afr op n nm (.slice a l.length c) h w)
 ·cases hn:isName nm with
  |false=>
   rw[hn]at hN;exact fin 0 0 nm l.length false (by simp [kM,LE.kind,LE.name,LE.args,hn]) (afa op n nm a l.length c hN w)
  |true=>
   by_cases h:l.length<=6
   ·exact fin 0 0 nm l.length true (by simp [kM,LE.kind,LE.name,LE.args,hn,h]) (agI op n nm ha hn a l.length c h w)
   ·rw[hn]at hN;exact fin 0 0 nm l.length false (by simp [kM,LE.kind,LE.name,LE.args,hn];exact decide_eq_false_iff_not.2 h) (aeU op n nm a l.length c h hN w)
 ·exact fin 0 0 nm 1 _ (by simp [kM,LE.kind,LE.name]) (aeV op n nm (.slice a l.length c) _ hN w)
 ·exact fin 0 0 [] 0 true (by simp [kM,LE.kind]) (agJ op n nm (.slice a l.length c) w)
 ·exact fin 0 0 [] 0 false (by simp [kM,LE.kind,show k≠1 by omega,show k≠2 by omega,show k≠3 by omega,show k≠4 by omega,show k≠5 by omega,show k≠6 by omega,show k≠7 by omega]) (agG k op n nm (.slice a l.length c) hk w)
end
end Go.Proofs.YtjgbkdbkachciaaGreatDoor
