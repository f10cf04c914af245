import Derived.Test.YtngglbakkedaiaaGreatDoorYG
set_option linter.all false
namespace Go.Proofs.YtngglbakkedaiaaGreatDoor
section
open Go.RowKit Go.Shelf
attribute [local go_sem] Oper.semAt_some
theorem RE.one {d:Nat} {B:Nat→Prop} {w:World} {C:Nat→Value} {e:LE} (h:RE d B w C e):∀j,j<5→(C j).oneCell'=true:=by
 cases d with
 |zero=>exact h.elim
 |succ d=>
  obtain⟨h0,h1,h2,h3,h4⟩:=h;obtain⟨a,c,h4, -⟩:=h4;intro j hj;rcases(by omega:j=0∨j=1∨j=2∨j=3∨j=4)with rfl|rfl|rfl|rfl|rfl
  ·rw[h0];rfl
  ·rw[h1];rfl
  ·rw[h2];rfl
  ·rw[h3];rfl
  ·rw[h4];rfl
theorem RE.eEnc {d:Nat} {B:Nat→Prop} {w:World} {p:EA} (h:RSlB B 5 (RE d B) w p.av p.e.args):RE (d+1) B w (fun j=>(eEnc p).getD j undef) p.e:=⟨rfl,rfl,rfl,rfl,h⟩
theorem OdE.same {e e':LE} (h:OdE e) (hn:NmG e'.name) (ha:e'.args=e.args):OdE e':=OdE.of hn (by rw[ha];exact h.args)
theorem DrE.nm {free:Bool} {d:Nat} {e:LE} (h:DrE (cW free) d e):NmG e.name:=by
 cases d with
 |zero=>exact h.elim
 |succ d=>
  rcases h.1 with h|h|h|h|h|h|h
  ·rw[h.2.2.2.1];exact NmG.nil
  ·exact h.2.1
  ·rw[h.2.2.2.1];exact NmG.nil
  ·rw[h.2.2.2.1];exact NmG.nil
  ·exact h.2.1.1
  ·exact h.2.1
  ·rw[h.2.2.2.1];exact NmG.nil
theorem EX_cons {w w':World} {B B' P:Nat→Prop} {l:List LE} {x:LE} {ya:Option Addr} {yc g dd:Nat} {v':Value} {news:List Value} {k o n:Int} {nm:Str}
  (hx:EX B' w (.slice ya x.args.length yc) x) (hown:w'.ownsRow g 57 5 v' (1+l.length) (eEnc ⟨x,ya,yc⟩++news)) (hne:∀i y,l[i]? =some y→∃C:Nat→Value,RE dd B w C y∧∀j,j<5→news[i*5+j]? =some (C j))
  (hg:w.grownBy w' (some g)) (hB: ¬B g) (hB': ¬B' g) (hat:∀q,v'.ownBlock=some q→some g=some q∨q=w.heap.size) (hl:l.length≤1000) (hP1:∀b,B b→P b) (hP2:∀b,B' b→P b) (hP3:P g) (hP4:P w):EX P w' v' (.mk k o n nm (x::l)):=by
 obtain⟨dx,hxx⟩:=hx;have hB2:∀r,some g=some r→ ¬B r:=fun r e=>by cases e;exact hB
 have hB3:∀r,some g=some r→ ¬B' r:=fun r e=>by cases e;exact hB'
 have hlen:(x::l).length=1+l.length:=so0;refine⟨dd+dx+1, ?_⟩;show RSlB P 5 (RE (dd+dx+1) P) w' v' (x::l);have h1:=ownsRow_rslB (R:=RE (dd+dx+1) P) (l:=x::l) (v:=v') (w:=w') (k:=5) (xs:=eEnc ⟨x,ya,yc⟩++news) (e:=57) (base:=g) (by rw[hlen];exact hown) (by rw[hlen];omega) (fun i y hy=> ?_)
 ·refine h1.weak (fun b hb=> ?_) i20;rcases hat b hb with h|h
  ·rw[←Option.some.inj h];exact hP3
  ·rw[h];exact hP4
 ·cases i with
  |zero=>
   obtain rfl:x=y:=by simpa using hy
   refine⟨fun j=>(eEnc ⟨x,ya,yc⟩).getD j undef, ?_,fun j hj=> ?_⟩
   ·refine RE.le (d:=dx+1) om0 (RE.weak _ hP2 ?_);exact RE.eEnc (p:=⟨x,ya,yc⟩) (hxx.grown hg hB3 (fun _ _ h=>RE.grown _ hg hB3 h))
   ·rw[Nat.zero_mul,Nat.zero_add,List.getElem?_append_left (by rw[eEnc_len];exact hj),List.getElem?_eq_getElem (by rw[eEnc_len];exact hj)];show _=some ((eEnc ⟨x,ya,yc⟩).getD j undef);rw[List.getD_eq_getElem?_getD,List.getElem?_eq_getElem (by rw[eEnc_len];exact hj)];rfl
  |succ i=>
   obtain⟨C,hC,hj⟩:=hne i y (by simpa using hy);refine⟨C,RE.le (d:=dd) om0 (RE.weak _ hP1 (RE.grown _ hg hB2 hC)),fun j hjl=> ?_⟩;have h5:(i+1)*5+j=5+(i*5+j):=om0;rw[h5,List.getElem?_append_right (by rw[eEnc_len];omega),eEnc_len,Nat.add_sub_cancel_left];exact hj j hjl
set_option maxRecDepth 100000 in
set_option maxHeartbeats 16000000 in
theorem wild27_any (free loop:Bool) (sb:Nat) (W:World) (vv av fv:Value) (hsc:ScIn (cW free) sb W vv av fv) (hs:Src sb W):
  Calls Tryz.prog 14 #[.agg #[vv,av,fv, .bool free, .bool loop], .pointer (some (sb,0))] W fun en w'=>∃(e:LE) (av':Value),en= .returned (eV e av')∧OdE e∧EX (W.heap.size≤·) w' av' e∧SG sb W w':=by
 obtain⟨Q,hQ⟩:∃Q:Ending→World→Prop,Q=fun en w'=>∃(e:LE) (av':Value),en= .returned (eV e av')∧OdE e∧EX (W.heap.size≤·) w' av' e∧SG sb W w':=⟨_,rfl⟩;rw[←hQ];have HQ:=hqz9 hQ;obtain⟨w1,hw1⟩:∃w1,w1=(W.alloc (.cells #[vv,av,fv, .bool free, .bool loop] 48)).alloc (.cells eZ 57):=⟨_,rfl⟩;have hwe:=hw1.symm;have hb1:Below W W w1:=by rw[hw1];exact below_a2 _ _ _
 have hr1:Row w1 W 48 [vv,av,fv, .bool free, .bool loop]:=by rw[hw1];exact heap_old _ _ hn0
 have HR2:=hqz9 (show Row w1 (W,1) 57 [I 0,I 0,I 0,S [], .slice none 0 0] by rw[hw1];exact heap_at sm0);have HZ1:=hqz9 (show w1.heap.size=W.heap.size+2 by rw[hw1];simp);have hsl:=hs.lt;have hsg1:SG sb W w1:=SG.start hs hb1;have HC:=hqz9 (expr28 (cW free) 3 dc0 dc0 sb w1 vv av fv loop (hsc.kept hsg1.1 (fun r e=>by cases e;rfl)) hsg1.2);have HSCN:=hqz9 hsc;have HSG1:=hqz9 hsg1;have HR1:=hqz9 hr1;have c0:=hr1.k0;have c1:=hr1.k1;have c2:=hr1.k2;have c3:=hr1.k3;have c4:=hr1.k4;clear hsc hs hw1 hb1 hr1 hsg1 hQ;go_enter Tryz.func14,Tryz.ntmps14;go_upto_region 2 with(first|(go_at_call 15;refine HC.mono ?_;rintro e' w2⟨e,xv,rfl,hdr,hex,hsg2⟩;obtain⟨xa,xc,rfl⟩:=hex.slice;have HDR:=hqz9 hdr;have HSG2:=hqz9 (HSG1.out.trans hsg2);have HEX:=hqz9 (EX.weak (B':=fun b=>W.heap.size+2≤b∧b<w2.heap.size) hex.size (fun b hb=>⟨by have:=hb.1;have:=HZ1.out;omega,hb.2⟩));have HU1:=hqz9 (hsg2.row HR1 om0);have HU2:=hqz9 (hsg2.row HR2 om0);have hz2:W.heap.size+2≤w2.heap.size:=(by have:=hsg2.size;have:=HZ1.out;omega);clear hdr hex hsg2 c0 c1 c2 c3 c4)|(refine sr 57 (.tmp 5) (.tmp 8) w2 eZ hn0 ?_;rw[World.setRow_alloc_new]))
 have⟨XL,hXL⟩:=xq e.args.length;have⟨eb,heb⟩:=xq w2.heap.size;rw[←hXL]at HEX
 try rw[←hXL]
 have⟨w3,hw3⟩:=xq (w2.alloc (.cells #[I e.kind,I e.op,I e.n,S e.name, .slice xa XL xc] 57));have hg3:=aG0 hw3;have hr3:Row w3 eb 57 [I e.kind,I e.op,I e.n,S e.name, .slice xa XL xc]:=by rw[hw3,heb];exact heap_new _ _
 rw[←hw3,←heb];have hebl:W.heap.size+2≤eb:=om0;have HXL:=hqz9 hXL;have HR3:=hqz9 hr3;have HSG3:=hqz9 (HSG2.post hg3 hsl nx0);have HEX3:=hqz9 (show EX (fun b=>W.heap.size+2≤b∧b<eb) w3 (.slice xa XL xc) e by rw[heb];exact HEX.grown hg3 nx0);have HV1:=kp0 HU1 hg3;have HV2:=kp0 HU2 hg3;have hez:eb<w3.heap.size:=hr3.lt;clear hXL hw3 hg3 hr3 heb hz2 HEX HU1 HU2;have HOD:=hqz9 HDR.od;have HNM:=hqz9 HDR.nm;have⟨ek,hek⟩:=xq e.kind;have⟨eo,heo⟩:=xq e.op;have⟨en,hen⟩:=xq e.n;have⟨nm,hnm⟩:=xq e.name;rw[←hek,←heo,←hen,←hnm]at HR3;have HNMN:=hqz9 (show NmG nm by rw[hnm];exact HNM.out);clear hek heo hen hnm HNM;go_upto_region 3 with(go_at_call 12;refine(next25_any sb 6 w3 HSG3.2 om0 om0).mono ?_;rintro e' w4⟨⟨r,rfl,hr0,hr1⟩,hs4⟩;obtain⟨r,rfl⟩:=nat_of hr0;have HSG4:=hqz9 (HSG3.out.trans hs4);have HR4:=hqz9 (hs4.row HR3 om0);have HEX4:=hqz9 (HEX3.grown hs4.1 sy0);have HU1:=hqz9 (hs4.row HV1 om0);have HU2:=hqz9 (hs4.row HV2 om0);have hz4:eb<w4.heap.size:=(oh0 hs4.size);clear hs4 hr0)
 have hr6:r<6:=om0;rcases(by omega:r=0∨r=1∨r=2∨r=3∨r=4∨r=5)with rfl|rfl|rfl|rfl|rfl|rfl
 ·as_aux_lemma=>
  go_upto_region 13 with(go_at_call 12;refine(next25_any sb 10 w4 HSG4.2 om0 om0).mono ?_;rintro e' w5⟨⟨r2,rfl,hr20,hr21⟩,hs5⟩;obtain⟨r2,rfl⟩:=nat_of hr20;have HSG5:=hqz9 (HSG4.out.trans hs5);have HR5:=hqz9 (hs5.row HR4 om0);have HEX5:=hqz9 (HEX4.grown hs5.1 sy0);have HU25:=hqz9 (hs5.row HU2 om0);have q5:=HR5.k0;have f5:=HR5.frozen 0;clear hs5 hr20)
  have⟨w6,hw6⟩:=xq (w5.setCell (eb,0) (I ((r2:Int) - 1)));have hg6:w5.grownBy w6 (some eb):=by rw[hw6];exact setCell_grown _ _ _ _
  have HR6:=hqz9 (show Row w6 eb 57 [I ((r2:Int) - 1),I eo,I en,S nm, .slice xa XL xc] by rw[hw6];exact HR5.set 0 (I ((r2:Int) - 1)));have HSG6:=hqz9 (HSG5.post hg6 hsl sx0);have HEX6:=hqz9 (HEX5.grown hg6 sy0);have HU6:=hqz9 (HU25.kept hg6 so1);rw[←hw6];clear hw6 hg6 q5 f5;have q0:=HR6.k0;have q1:=HR6.k1;have q2:=HR6.k2;have q3:=HR6.k3;have q4:=HR6.k4;go_wp2_with (refine sr 57 (.tmp 4) (.tmp 44) (W.heap.size+1) eZ HU6.out ?_)
  refine bodyPost_ret (results_cell_row rfl _ _ (W.heap.size+1) 57 _ (0,0) _ rfl (setRow_heap _ _ _ _ _ _ HU6.out) Tryz.underlying57 rfl kr0) rfl ?_;rw[HQ.out];refine⟨.mk ((r2:Int) - 1) (eo) (en) nm e.args,_,rfl,OdE.same HOD HNMN rfl, ?_,HSG6.post setRow_grown hsl sx0⟩;exact EX.weak (EX.grown HEX6 setRow_grown sy0) (fun b hb=>(by omega:W.heap.size≤b))
 ·as_aux_lemma=>
  go_upto_region 13 with(go_at_call 12;refine(next25_any sb 22 w4 HSG4.2 om0 om0).mono ?_;rintro e' w5⟨⟨r2,rfl,hr20,hr21⟩,hs5⟩;obtain⟨r2,rfl⟩:=nat_of hr20;have HSG5:=hqz9 (HSG4.out.trans hs5);have HR5:=hqz9 (hs5.row HR4 om0);have HEX5:=hqz9 (HEX4.grown hs5.1 sy0);have HU25:=hqz9 (hs5.row HU2 om0);have q5:=HR5.k1;have f5:=HR5.frozen 1;clear hs5 hr20)
  have⟨w6,hw6⟩:=xq (w5.setCell (eb,1) (I ((r2:Int) - 1)));have hg6:w5.grownBy w6 (some eb):=by rw[hw6];exact setCell_grown _ _ _ _
  have HR6:=hqz9 (show Row w6 eb 57 [I ek,I ((r2:Int) - 1),I en,S nm, .slice xa XL xc] by rw[hw6];exact HR5.set 1 (I ((r2:Int) - 1)));have HSG6:=hqz9 (HSG5.post hg6 hsl sx0);have HEX6:=hqz9 (HEX5.grown hg6 sy0);have HU6:=hqz9 (HU25.kept hg6 so1);rw[←hw6];clear hw6 hg6 q5 f5;have q0:=HR6.k0;have q1:=HR6.k1;have q2:=HR6.k2;have q3:=HR6.k3;have q4:=HR6.k4;go_wp2_with (refine sr 57 (.tmp 4) (.tmp 44) (W.heap.size+1) eZ HU6.out ?_)
  refine bodyPost_ret (results_cell_row rfl _ _ (W.heap.size+1) 57 _ (0,0) _ rfl (setRow_heap _ _ _ _ _ _ HU6.out) Tryz.underlying57 rfl kr0) rfl ?_;rw[HQ.out];refine⟨.mk (ek) ((r2:Int) - 1) (en) nm e.args,_,rfl,OdE.same HOD HNMN rfl, ?_,HSG6.post setRow_grown hsl sx0⟩;exact EX.weak (EX.grown HEX6 setRow_grown sy0) (fun b hb=>(by omega:W.heap.size≤b))
 ·as_aux_lemma=>
  go_upto_region 13 with(go_at_call 12;refine(next25_any sb 9 w4 HSG4.2 om0 om0).mono ?_;rintro e' w5⟨⟨r2,rfl,hr20,hr21⟩,hs5⟩;obtain⟨r2,rfl⟩:=nat_of hr20;have HSG5:=hqz9 (HSG4.out.trans hs5);have HR5:=hqz9 (hs5.row HR4 om0);have HEX5:=hqz9 (HEX4.grown hs5.1 sy0);have HU25:=hqz9 (hs5.row HU2 om0);have q5:=HR5.k2;have f5:=HR5.frozen 2;clear hs5 hr20)
  have⟨w6,hw6⟩:=xq (w5.setCell (eb,2) (I ((r2:Int) - 4)));have hg6:w5.grownBy w6 (some eb):=by rw[hw6];exact setCell_grown _ _ _ _
  have HR6:=hqz9 (show Row w6 eb 57 [I ek,I eo,I ((r2:Int) - 4),S nm, .slice xa XL xc] by rw[hw6];exact HR5.set 2 (I ((r2:Int) - 4)));have HSG6:=hqz9 (HSG5.post hg6 hsl sx0);have HEX6:=hqz9 (HEX5.grown hg6 sy0);have HU6:=hqz9 (HU25.kept hg6 so1);rw[←hw6];clear hw6 hg6 q5 f5;have q0:=HR6.k0;have q1:=HR6.k1;have q2:=HR6.k2;have q3:=HR6.k3;have q4:=HR6.k4;go_wp2_with (refine sr 57 (.tmp 4) (.tmp 44) (W.heap.size+1) eZ HU6.out ?_)
  refine bodyPost_ret (results_cell_row rfl _ _ (W.heap.size+1) 57 _ (0,0) _ rfl (setRow_heap _ _ _ _ _ _ HU6.out) Tryz.underlying57 rfl kr0) rfl ?_;rw[HQ.out];refine⟨.mk (ek) (eo) ((r2:Int) - 4) nm e.args,_,rfl,OdE.same HOD HNMN rfl, ?_,HSG6.post setRow_grown hsl sx0⟩;exact EX.weak (EX.grown HEX6 setRow_grown sy0) (fun b hb=>(by omega:W.heap.size≤b))
 ·as_aux_lemma=>
  go_upto_region 13 with(go_at_call 13;refine(odd26_any sb w4 HSG4.2).mono ?_;rintro e' w5⟨⟨y,rfl,hy⟩,hs5⟩;have HY:=hqz9 hy;have HSG5:=hqz9 (HSG4.out.trans hs5);have HR5:=hqz9 (hs5.row HR4 om0);have HEX5:=hqz9 (HEX4.grown hs5.1 sy0);have HU25:=hqz9 (hs5.row HU2 om0);have q5:=HR5.k3;have f5:=HR5.frozen 3;clear hs5 hy)
  have⟨w6,hw6⟩:=xq (w5.setCell (eb,3) (S y));have hg6:w5.grownBy w6 (some eb):=by rw[hw6];exact setCell_grown _ _ _ _
  have HR6:=hqz9 (show Row w6 eb 57 [I ek,I eo,I en,S y, .slice xa XL xc] by rw[hw6];exact HR5.set 3 (S y));have HSG6:=hqz9 (HSG5.post hg6 hsl sx0);have HEX6:=hqz9 (HEX5.grown hg6 sy0);have HU6:=hqz9 (HU25.kept hg6 so1);rw[←hw6];clear hw6 hg6 q5 f5;have q0:=HR6.k0;have q1:=HR6.k1;have q2:=HR6.k2;have q3:=HR6.k3;have q4:=HR6.k4;go_wp2_with (refine sr 57 (.tmp 4) (.tmp 44) (W.heap.size+1) eZ HU6.out ?_)
  refine bodyPost_ret (results_cell_row rfl _ _ (W.heap.size+1) 57 _ (0,0) _ rfl (setRow_heap _ _ _ _ _ _ HU6.out) Tryz.underlying57 rfl kr0) rfl ?_;rw[HQ.out];refine⟨.mk (ek) (eo) (en) y e.args,_,rfl,OdE.same HOD HY rfl, ?_,HSG6.post setRow_grown hsl sx0⟩;exact EX.weak (EX.grown HEX6 setRow_grown sy0) (fun b hb=>(by omega:W.heap.size≤b))
 ·skip
  go_upto_region 12 with(fail)
  refine rX0 (fun X=>X.cell? (W,0)=some vv∧X.cell? (W,1)=some av∧X.cell? (W,2)=some fv∧X.cell? (W,3)=some (.bool free)∧X.cell? (W,4)=some (.bool loop)∧X.cell? (eb,4)=some (.slice xa XL xc)) [(0,0),(0,1),(0,4),(0,5),(1,2),(1,3),(1,6),(0,7),(2,8)] (fun wd hh=>⟨row_at HU1.out hh 0,row_at HU1.out hh 1,row_at HU1.out hh 2,row_at HU1.out hh 3,row_at HU1.out hh 4,row_at HR4.out hh 4⟩) fun wd hh hgd hS=> ?_;have HSGD:=hqz9 (HSG4.post hgd hsl nx0);have HUD1:=kp0 HU1 hgd;have HUD2:=kp0 HU2 hgd;have HRD:=kp0 HR4 hgd;have HEXD:=hqz9 (HEX4.grown hgd nx0);have hzd:eb<wd.heap.size:=by have:=hgd.size;omega
  have HC2:=hqz9 (expr28 (cW free) 2 dc0 dc0 sb wd vv av fv loop (HSCN.kept HSGD.1 (fun r e=>by cases e;rfl)) HSGD.2);have hS2:∀X:World,Row X W 48 [vv,av,fv, .bool free, .bool loop]→Row X eb 57 [I ek,I eo,I en,S nm, .slice xa XL xc]→(X.cell? (W,0)=some vv∧X.cell? (W,1)=some av∧X.cell? (W,2)=some fv∧X.cell? (W,3)=some (.bool free)∧X.cell? (W,4)=some (.bool loop)∧X.cell? (eb,4)=some (.slice xa XL xc)):=
   fun X h h'=>⟨h.cell 0,h.cell 1,h.cell 2,h.cell 3,h.cell 4,h'.cell 4⟩
  have HS2:=hqz9 hS2;clear hh hgd hS2;refine lkQ ?_;go_wp2_with (go_at_call 15;refine HC2.mono ?_;rintro e' wB⟨x,xv,rfl,hdr2,hex2,hsg2⟩;obtain⟨ya,yc,rfl⟩:=hex2.slice;have HDR2:=hqz9 hdr2.od;have HEX2:=hqz9 hex2.size;have HSGB:=hqz9 (HSGD.out.trans hsg2);have HUB1:=hqz9 (hsg2.row HUD1 om0);have HUB2:=hqz9 (hsg2.row HUD2 om0);have HRB:=hqz9 (hsg2.row HRD om0);have HEXB:=hqz9 (HEXD.grown hsg2.1 sy0);have hzB:wd.heap.size≤wB.heap.size:=hsg2.size;clear hdr2 hex2 hsg2 hS)
  refine QN_keep (HS2 wB HUB1 HRB) fun hS=> ?_;clear hS;refine wpOrd_turn ?_;go_wp2;have⟨wC,hwC⟩:=xq (wB.alloc (.cells #[I x.kind,I x.op,I x.n,S x.name, .slice ya x.args.length yc] 57));have⟨g,hg⟩:=xq wB.heap.size;have hgC:=aG0 hwC
  have hnC:wC.heap[g]? =some (.cells #[I x.kind,I x.op,I x.n,S x.name, .slice ya x.args.length yc] 57):=by rw[hwC,hg];exact heap_new _ _
  rw[←hwC,←hg];have hzC:g<wC.heap.size:=by rw[hwC,hg];simp
  have hgz:wd.heap.size≤g:=by rw[hg];exact hzB
  have hgz2:W.heap.size+2≤g:=om0;have HSGC:=hqz9 (HSGB.post hgC hsl nx0);have HUC1:=kp0 HUB1 hgC;have HUC2:=kp0 HUB2 hgC;have HRC:=kp0 HRB hgC;have HEXC:=hqz9 (HEXB.grown hgC nx0);have HXC:=hqz9 (show EX (fun b=>wd.heap.size≤b∧b<g) wC (.slice ya x.args.length yc) x by rw[hg];exact HEX2.grown hgC nx0);have hown:wC.ownsRow g 57 5 (.slice (some (g,0)) 1 1) 1 (eEnc ⟨x,ya,yc⟩):=⟨rfl, .inr ⟨g,1,_,rfl,Nat.le_refl _,hnC,Nat.le_refl _,dc0,rfl,rfl⟩⟩;have HOWN:=hqz9 hown;obtain⟨dd,hxs⟩:=HEXC.out;have hxs:RSlB (fun b=>W.heap.size+2≤b∧b<eb) 5 (RE dd (fun b=>W.heap.size+2≤b∧b<eb)) wC (.slice xa XL xc) e.args:=hxs;have hxl:XL≤1000000∨True:= .inr trivial;have HXS:=hqz9 hxs;have hlen:e.args.length≤1000:=by
   have:=HDR.out;rcases this.1 with h|h|h|h|h|h|h
   ·omega
   ·omega
   ·omega
   ·omega
   ·have:=h.2.1.2;omega
   ·omega
   ·omega
  have HLEN:=hqz9 hlen;clear hwC hnC hgC hown hxs hxl hlen hg;refine QN_keep (HS2 wC HUC1 HRC) fun hS=> ?_;clear hS;refine wpOrd_turn ?_;go_wp2_with (at_builtin;refine wpList_appR slExpr rfl _ _ rfl g _ 1 _ rfl HOWN.out _ e.args rfl HXS.out (fun C y h=>RE.one h) (oq0 HLEN) dc0 (Nat.le_of_lt hzC) ?_;intro v' wE news hoE hnl hnE hgE hatE;have HOE:=hqz9 hoE;have HNE:=hqz9 hnE;have HGE:=hqz9 (show wC.grownBy wE (some g)from hgE);have HAT:=hqz9 hatE;clear hoE hnE hgE hatE hnl)
  have hge:=HGE.out;have HUE1:=hqz9 (HUC1.kept hge so1);have HUE2:=hqz9 (HUC2.kept hge so1);have HRE:=hqz9 (HRC.kept hge so1);have HSGE:=hqz9 (HSGC.post hge hsl sx0);clear hge;refine QN_keep (HS2 wE HUE1 HRE) fun hS=> ?_;obtain⟨va,vn,vc,hv'⟩:∃a n c,v'= .slice a n c:=by
   rcases HOE.2 with⟨h,_⟩|⟨g',cap,cur,h,_⟩
   ·exact⟨_,_,_,h⟩
   ·exact⟨_,_,_,h⟩
  have hex9:EX (fun b=>W.heap.size+2≤b∧b≠eb) wE v' (.mk ek eo en nm (x::e.args)):=
   EX_cons HXC HOE HNE HGE (fun h=>by have:=h.2;omega) (fun h=>by have:=h.2;omega) HAT HLEN (fun b hb=>⟨hb.1,by have:=hb.2;omega⟩) (fun b hb=>⟨by have:=hb.1;omega,by have:=hb.1;omega⟩) ⟨om0,om0⟩ ⟨om0,om0⟩
  have HEX9:=hqz9 hex9;subst hv';have q5:=HRE.k4;have f5:=HRE.frozen 4;clear hex9;refine lkB ?_;clear hS;refine wpOrd_last ?_;go_wp2;refine QN_normal (wpOrd_nil ?_);have⟨w6,hw6⟩:=xq (wE.setCell (eb,4) (.slice va vn vc));have hg6:wE.grownBy w6 (some eb):=by rw[hw6];exact setCell_grown _ _ _ _
  have HR6:=hqz9 (show Row w6 eb 57 [I ek,I eo,I en,S nm, .slice va vn vc] by rw[hw6];exact HRE.set 4 (.slice va vn vc));have HSG6:=hqz9 (HSGE.post hg6 hsl sx0);have HU6:=hqz9 (HUE2.kept hg6 so1);have HEX6:=hqz9 (EX.weak (EX.grown HEX9 hg6 (fun r e hb=>by cases e;exact hb.2 rfl)) (B':=(W.heap.size+2≤·)) (fun b hb=>hb.1));rw[←hw6];clear hw6 hg6 q5 f5;have q0:=HR6.k0;have q1:=HR6.k1;have q2:=HR6.k2;have q3:=HR6.k3;have q4:=HR6.k4;go_wp2_with (refine sr 57 (.tmp 4) (.tmp 44) (W.heap.size+1) eZ HU6.out ?_)
  refine bodyPost_ret (results_cell_row rfl _ _ (W.heap.size+1) 57 _ (0,0) _ rfl (setRow_heap _ _ _ _ _ _ HU6.out) Tryz.underlying57 rfl kr0) rfl ?_;rw[HQ.out];refine⟨.mk (ek) (eo) (en) nm (x::e.args),_,rfl,OdE.of HNMN (fun y hy=>by
   rcases List.mem_cons.1 hy with rfl|hy
   ·exact HDR2.out
   ·exact HOD.args y hy), ?_,HSG6.post setRow_grown hsl sx0⟩
  exact EX.weak (EX.grown HEX6 setRow_grown sy0) (fun b hb=>(by omega:W.heap.size≤b))
 ·as_aux_lemma=>
  have q0:=HR4.k0;have q1:=HR4.k1;have q2:=HR4.k2;have q3:=HR4.k3;have q4:=HR4.k4;go_wp2_with (refine sr 57 (.tmp 4) (.tmp 44) (W.heap.size+1) eZ HU2.out ?_)
  refine bodyPost_ret (results_cell_row rfl _ _ (W.heap.size+1) 57 _ (0,0) _ rfl (setRow_heap _ _ _ _ _ _ HU2.out) Tryz.underlying57 rfl kr0) rfl ?_;rw[HQ.out];refine⟨.mk (ek) (eo) (en) nm e.args,_,rfl,OdE.same HOD HNMN rfl, ?_,HSG4.post setRow_grown hsl sx0⟩;exact EX.weak (EX.grown HEX4 setRow_grown sy0) (fun b hb=>(by omega:W.heap.size≤b))
end
section
open Go.RowKit Go.Shelf
attribute [local go_sem] Oper.semAt_some
def OT.wi:OT:= .one 0 0 (.one 0 1 (.one 0 4 (.two 2 5 (.two 3 5 (.one 1 5 (.one 0 6 (.one 2 7 .nil))) (.one 1 3 (.one 0 6 (.one 2 7 .nil)))) (.one 1 2 (.one 1 3 (.one 0 6 (.one 2 7 .nil)))))))
def OT.waT:OT:= .one 0 7 (.one 1 8 (.one 0 9 (.one 1 10 (.one 1 11 (.one 0 12 (.one 2 13 .nil))))))
def OT.wa:OT:= .one 0 0 (.one 0 1 (.one 0 2 (.one 0 5 (.two 3 4 (.two 4 6 (.one 1 6 .waT) (.one 1 4 .waT)) (.one 1 3 (.one 1 6 .waT))))))
theorem wZ_at {r:Nat} (h:r<5):∃z:Int,[I 0,I (-1),I 1,I 1048576,I 1048577][r]? =some (I z):=by
 rcases(by omega:r=0∨r=1∨r=2∨r=3∨r=4)with rfl|rfl|rfl|rfl|rfl
 ·exact⟨0,rfl⟩
 ·exact⟨-1,rfl⟩
 ·exact⟨1,rfl⟩
 ·exact⟨1048576,rfl⟩
 ·exact⟨1048577,rfl⟩
def OT.wb:OT:= .one 0 0 (.one 0 1 (.one 0 3 (.two 2 4 (.one 1 4 (.one 1 5 (.one 0 6 (.one 2 7 .nil)))) (.one 1 2 (.one 1 5 (.one 0 6 (.one 2 7 .nil)))))))
theorem RS.one5 {d:Nat} {B:Nat→Prop} {w:World} {C:Nat→Value} {s:LS} (h:RS d B w C s):∀j,j<5→(C j).oneCell'=true:=by
 cases d with
 |zero=>exact h.elim
 |succ d=>
  obtain⟨h0,h1,⟨_,a2,c2,h2,_⟩,⟨a3,c3,h3,_⟩,⟨a4,c4,h4,_⟩⟩:=h;intro j hj;rcases(by omega:j=0∨j=1∨j=2∨j=3∨j=4)with rfl|rfl|rfl|rfl|rfl
  ·rw[h0];rfl
  ·rw[h1];rfl
  ·rw[h2];rfl
  ·rw[h3];rfl
  ·rw[h4];rfl
theorem SX_app {w':World} {K:Nat→Prop} {base d1 d2:Nat} {l1 l2:List LS} {v':Value} {n1 n2:List Value} (hown:w'.ownsRow base 55 5 v' (l1.length+l2.length) (n1++n2)) (hl1:n1.length=l1.length*5)
  (h1:∀i y,l1[i]? =some y→∃C:Nat→Value,RS d1 K w' C y∧∀j,j<5→n1[i*5+j]? =some (C j)) (h2:∀i y,l2[i]? =some y→∃C:Nat→Value,RS d2 K w' C y∧∀j,j<5→n2[i*5+j]? =some (C j))
  (hl:l1.length+l2.length≤1000000000) (hK:∀q,v'.ownBlock=some q→K q):SX K w' v' (l1++l2):=by
 refine⟨max d1 d2, ?_⟩;have:=ownsRow_rslB (R:=RS (max d1 d2) K) (l:=l1++l2) (v:=v') (w:=w') (k:=5) (xs:=n1++n2) (e:=55) (base:=base) (by rw[List.length_append];exact hown) (by rw[List.length_append];exact hl) (fun i y hy=> ?_)
 ·exact this.weak hK i20
 ·by_cases hi:i<l1.length
  ·rw[List.getElem?_append_left hi]at hy;obtain⟨C,hC,hj⟩:=h1 i y hy;refine⟨C,RS.le (Nat.le_max_left _ _) hC,fun j hjl=> ?_⟩;rw[List.getElem?_append_left om0];exact hj j hjl
  ·rw[List.getElem?_append_right om0]at hy;obtain⟨C,hC,hj⟩:=h2 _ y hy;refine⟨C,RS.le (Nat.le_max_right _ _) hC,fun j hjl=> ?_⟩;rw[List.getElem?_append_right om0,hl1,show i*5+j - l1.length*5=(i - l1.length)*5+j by omega];exact hj j hjl
theorem PartD.row1 {B:Nat→Prop} {w:World} {x:SD} {g:Nat} (hp:PartD B w x) (hr:Row w g 55 (dEnc x)) (hg:B g):SX B w (.slice (some (g,0)) 1 1) [x.s]:=by
 obtain⟨d1,h1⟩:=hp.t;obtain⟨d2,h2⟩:=hp.e;refine⟨max d1 d2+1,RSlB.one hr hg rfl ?_⟩;exact⟨rfl,rfl,hp.a,h1.weak (fun _ h=>h) (fun _ _ h'=>RS.le (Nat.le_max_left _ _) h'),h2.weak (fun _ h=>h) (fun _ _ h'=>RS.le (Nat.le_max_right _ _) h')⟩
theorem grown_post {a b c:World} {r0 row:Option Nat} (h:a.grownBy b r0) (k:b.grownBy c row) (hr:∀r,row=some r→a.heap.size≤r):a.grownBy c r0:=
 ⟨k.os.trans h.os,k.tape.trans h.tape,k.output.trans h.output,Nat.le_trans h.size k.size,fun i hi hne=>(k.block i (Nat.lt_of_lt_of_le hi h.size) (fun e=>by have:=hr i e.symm;omega)).trans (h.block i hi hne)⟩
abbrev vW (vg:Nat):Value:= .slice (some ⟨vg,0,none⟩) 2 2
abbrev cRow (vg:Nat) (cf:Bool):List Value:= [vW vg, .slice none 0 0, .slice none 0 0, .bool cf, .bool false]
structure KW (sz cb gf pb fb xb:Nat) (gA:Option Nat) (b:Nat):Prop where
 lo:sz+2≤b
 c:b≠cb
 g:b≠gf
 p:b≠pb
 f:b≠fb
 x:b≠xb
 a:gA≠some b
structure WX (W:World) (vg cb gf pb fb xb:Nat) (cf:Bool) (top:Nat) (w:World) (av:Value) (fc:Nat) (ars:List LA) (fs:List FG) (f:FG) (x:SD):Prop where
 below:Below W.heap.size W w
 src:Src (W.heap.size+1) w
 out:Row w W.heap.size 27 [.slice none 0 0, .slice none 0 0]
 lv:W.heap.size+1<vg
 l1:vg<cb
 l2:cb<gf
 l3:gf<pb
 l4:pb<fb
 l5:fb<xb
 var:Row w vg 9 [S [120],S [112]]
 c:Row w cb 48 (cRow vg cf)
 p:Row w pb 27 [av, .slice (some ⟨gf,0,none⟩) fs.length fc]
 rf:Row w fb 51 (fgEnc f)
 rx:Row w xb 55 (dEnc x)
 arr:OwnS 2 60 a2Enc w (cb+1) av ars
 dis:∀g,av.ownBlock=some g→g≠gf∧g≠pb∧g≠fb∧g≠xb∧g<top
 fns:OwnS 4 51 fgEnc w (cb+1) (.slice (some ⟨gf,0,none⟩) fs.length fc) fs
 fsp:∀q∈fs,PartG (fun b=>KW W.heap.size cb gf pb fb xb av.ownBlock b∧b<top) w q.pv q.lv q.bv q.f
 fp:PartG (fun b=>KW W.heap.size cb gf pb fb xb av.ownBlock b∧b<top) w f.pv f.lv f.bv f.f
 xp:PartD (KW W.heap.size cb gf pb fb xb av.ownBlock) w x
 nA:∀a∈ars,NmG a.name
 nF:∀q∈fs,OdF q.f
 nf:OdF f.f
 nx:OdS x.s
 la:ars.length≤3
 lf:fs.length≤3
section
variable {W w w' w1:World} {vg cb gf pb fb xb top fc:Nat} {cf:Bool} {av:Value} {ars:List LA} {fs:List FG} {f:FG} {x:SD}
theorem WX.lt (h:WX W vg cb gf pb fb xb cf top w av fc ars fs f x):xb<w.heap.size:=h.rx.lt
theorem WX.le {top':Nat} (h:WX W vg cb gf pb fb xb cf top w av fc ars fs f x) (ht:top≤top'):WX W vg cb gf pb fb xb cf top' w av fc ars fs f x:=
 {h with
  dis:=fun g hg=>by obtain⟨h1,h2,h3,h4,h5⟩:=h.dis g hg;exact⟨h1,h2,h3,h4,om0⟩
  fsp:=fun q hq=>(h.fsp q hq).weak fun b hb=>⟨hb.1,om0⟩
  fp:=h.fp.weak fun b hb=>⟨hb.1,om0⟩}
theorem WX.new (h:WX W vg cb gf pb fb xb cf top w av fc ars fs f x) {b:Nat} (hb:w.heap.size≤b):KW W cb gf pb fb xb av.ownBlock b:=by
 have:=h.lt;have:=h.lv;have:=h.l1;have:=h.l2;have:=h.l3;have:=h.l4;have:=h.l5;exact⟨om0,om0,om0,om0,om0,om0,fun e=>by have:=(ownsRow_base h.arr b e).2;omega⟩
theorem WX.own (h:WX W vg cb gf pb fb xb cf top w av fc ars fs f x) {r:Nat} (hr:r≤cb∨r=gf∨r=pb∨r=fb∨r=xb∨w.heap.size≤r):av.ownBlock=none∨av.ownBlock≠some r:=by
 cases hv:av.ownBlock with
 |none=>exact .inl rfl
 |some g=>
  right;intro e;obtain rfl:=Option.some.inj e;have h1:=ownsRow_base h.arr g hv;have h2:=h.dis g hv;omega
theorem WX.kept {row:Option Nat} (h:WX W vg cb gf pb fb xb cf top w av fc ars fs f x) (hg:w.grownBy w' row) (hs:Src (W,1) w') (hr:∀r,row=some r→r=W.heap.size+1):WX W vg cb gf pb fb xb cf top w' av fc ars fs f x:=by
 have e1:=h.lv;have e2:=h.l1;have e3:=h.l2;have e4:=h.l3;have e5:=h.l4;have e6:=h.l5;have hK:∀r,row=some r→ ¬KW W cb gf pb fb xb av.ownBlock r:=fun r e hk=>by have:=hr r e;have:=hk.lo;omega
 have hne:∀g,g≠W.heap.size+1→some g≠row:=fun g hg e=>hg (hr g e.symm);exact{h with
  below:=h.below.grown hg h.below.size (fun r e=>by have:=hr r e;omega)
  src:=hs
  out:=h.out.kept hg (hne _ om0)
  var:=h.var.kept hg (hne _ om0)
  c:=h.c.kept hg (hne _ om0)
  p:=h.p.kept hg (hne _ om0)
  rf:=h.rf.kept hg (hne _ om0)
  rx:=h.rx.kept hg (hne _ om0)
  arr:=ownsRow_kept' h.arr hg (by
   cases row with
   |none=>cases av.ownBlock<;>simp
   |some r=>exact h.own (.inl (oh0 (hr r rfl))))
  fns:=ownsRow_kept' h.fns hg (.inr (fun e=>hne gf om0 e))
  fsp:=fun q hq=>(h.fsp q hq).grown hg fun r e hk=>hK r e hk.1
  fp:=h.fp.grown hg fun r e hk=>hK r e hk.1
  xp:=h.xp.grown hg hK}
theorem WX.draw (h:WX W vg cb gf pb fb xb cf top w av fc ars fs f x) (hs:SG (W,1) w w'):WX W vg cb gf pb fb xb cf top w' av fc ars fs f x:=h.kept hs.1 hs.2 fun r e=>(Option.some.inj e).symm
theorem WX.al (h:WX W vg cb gf pb fb xb cf top w av fc ars fs f x) (hg:w.grownBy w' none):WX W vg cb gf pb fb xb cf top w' av fc ars fs f x:=h.kept hg (h.src.kept hg nx0) fun r e=>by cases e
theorem WX.sg (h:WX W vg cb gf pb fb xb cf top w av fc ars fs f x):SG (W,1) w w:=⟨⟨rfl,rfl,rfl,Nat.le_refl _,fun _ _ _=>rfl⟩,h.src⟩
theorem WX.sc (h:WX W vg cb gf pb fb xb cf top w av fc ars fs f x):ScIn (cW cf) (W,1) w (vW vg) (.slice none 0 0) (.slice none 0 0):=
 ⟨⟨[[120],[112]],row_strs (l:= [[120],[112]]) h.var (oh0 h.lv) dc0 dc0,fun _ x hx=>nm_raw x (by
   simp only[List.mem_cons,List.not_mem_nil,or_false]at hx
   rcases hx with rfl|rfl<;>decide)⟩,⟨[],RSlB.nil _ _ _ _,fun _ x hx=>by cases hx⟩,⟨[],RSlB.nil _ _ _ _,fun _ x hx=>by cases hx⟩,fun _=>⟨fun _ h=>h,fun _ h=>h,fun _ _ h h'=>⟨h,h'⟩⟩⟩
theorem WX.setx {row:Option Nat} {x':SD} (h:WX W vg cb gf pb fb xb cf top w av fc ars fs f x) (ht:row=none∨top≤xb+1) (hg:w.grownBy w1 row) (hr:∀r,row=some r→xb<r) (hg2:w1.grownBy w' (some xb))
  (hx:Row w' xb 55 (dEnc x')) (hp:PartD (KW W cb gf pb fb xb av.ownBlock) w' x') (hn:OdS x'.s):WX W vg cb gf pb fb xb cf top w' av fc ars fs f x':=by
 have e1:=h.lv;have e2:=h.l1;have e3:=h.l2;have e4:=h.l3;have e5:=h.l4;have e6:=h.l5;have hne:∀g,g<xb→some g≠row:=fun g hg e=>by have:=hr g e.symm;omega
 have hne2:∀g,g<xb→some g≠some xb:=fun g hg e=>by have:=Option.some.inj e;omega
 have hb:=h.below;have hb1:=hb.grown hg hb.size (fun r e=>by have:=hr r e;omega);have hsz:w.heap.size≤w1.heap.size:=hg.size;have hsz0:=hb.size;have hK:∀r,row=some r→ ¬(KW W cb gf pb fb xb av.ownBlock r∧r<top):=fun r e hk=>by
  rcases ht with rfl|ht
  ·cases e
  ·have:=hr r e;omega
 have hK2:∀r,some xb=some r→ ¬(KW W cb gf pb fb xb av.ownBlock r∧r<top):=fun r e hk=>hk.1.x (Option.some.inj e).symm;exact{h with
  below:=hb1.grown hg2 om0 sx0
  src:=(h.src.kept hg (fun r e=>by have:=hr r e;omega)).kept hg2 sx0
  out:=(h.out.kept hg (hne _ om0)).kept hg2 (hne2 _ om0)
  var:=(h.var.kept hg (hne _ om0)).kept hg2 (hne2 _ om0)
  c:=(h.c.kept hg (hne _ om0)).kept hg2 (hne2 _ om0)
  p:=(h.p.kept hg (hne _ om0)).kept hg2 (hne2 _ om0)
  rf:=(h.rf.kept hg (hne _ om0)).kept hg2 (hne2 _ om0)
  rx:=hx
  arr:=ownsRow_kept' (ownsRow_kept' h.arr hg (by
   cases hrow:row with
   |none=>cases av.ownBlock<;>simp
   |some r=>
    cases hv:av.ownBlock with
    |none=>exact .inl rfl
    |some g=>
     right;intro e;obtain rfl:=Option.some.inj e;rcases ht with rfl|ht
     ·cases hrow
     ·have:=hr g hrow;have:=(h.dis g hv).2.2.2.2;omega)) hg2 (h.own (.inr (.inr (.inr (.inr (.inl rfl))))))
  fns:=ownsRow_kept' (ownsRow_kept' h.fns hg (.inr (fun e=>hne gf om0 e))) hg2 (.inr (fun e=>hne2 gf om0 e))
  fsp:=fun q hq=>((h.fsp q hq).grown hg hK).grown hg2 hK2
  fp:=(h.fp.grown hg hK).grown hg2 hK2
  xp:=hp
  nx:=hn}
theorem WX.setf {f':FG} (h:WX W vg cb gf pb fb xb cf top w av fc ars fs f x) (hg2:w.grownBy w' (some fb))
  (hx:Row w' fb 51 (fgEnc f')) (hp:PartG (fun b=>KW W cb gf pb fb xb av.ownBlock b∧b<top) w f'.pv f'.lv f'.bv f'.f) (hn:OdF f'.f):WX W vg cb gf pb fb xb cf top w' av fc ars fs f' x:=by
 have e1:=h.lv;have e2:=h.l1;have e3:=h.l2;have e4:=h.l3;have e5:=h.l4;have e6:=h.l5;have hne2:∀g,g≠fb→some g≠some fb:=fun g hg e=>hg (Option.some.inj e);have hb:=h.below;have hsz0:=hb.size;have hK2:∀r,some fb=some r→ ¬(KW W cb gf pb fb xb av.ownBlock r∧r<top):=fun r e hk=>hk.1.f (Option.some.inj e).symm;exact{h with
  below:=hb.grown hg2 om0 sx0
  src:=h.src.kept hg2 sx0
  out:=h.out.kept hg2 (hne2 _ om0)
  var:=h.var.kept hg2 (hne2 _ om0)
  c:=h.c.kept hg2 (hne2 _ om0)
  p:=h.p.kept hg2 (hne2 _ om0)
  rf:=hx
  rx:=h.rx.kept hg2 (hne2 _ om0)
  arr:=ownsRow_kept' h.arr hg2 (h.own (.inr (.inr (.inr (.inl rfl)))))
  fns:=ownsRow_kept' h.fns hg2 (.inr (fun e=>hne2 gf om0 e))
  fsp:=fun q hq=>(h.fsp q hq).grown hg2 hK2
  fp:=hp.grown hg2 hK2
  xp:=h.xp.grown hg2 (fun r e hk=>hk.f (Option.some.inj e).symm)
  nf:=hn}
theorem WX.seta {top':Nat} {av':Value} {ars':List LA} (h:WX W vg cb gf pb fb xb cf top w av fc ars fs f x) (hg:w.grownBy w1 av.ownBlock) (ho:OwnS 2 60 a2Enc w1 (cb+1) av' ars') (ht:top≤top')
  (hat:∀g,av'.ownBlock=some g→av.ownBlock=some g∨(w.heap.size≤g∧g<top')) (hg2:w1.grownBy w' (some pb)) (hx:Row w' pb 27 [av', .slice (some (gf,0)) fs.length fc])
  (hn:∀a∈ars',NmG a.name) (hl:ars'.length≤3):WX W vg cb gf pb fb xb cf top' w' av' fc ars' fs f x:=by
 have e1:=h.lv;have e2:=h.l1;have e3:=h.l2;have e4:=h.l3;have e5:=h.l4;have e6:=h.l5;have hxl:=h.lt;have hb:=h.below;have hsz0:=hb.size;have hsz:w.heap.size≤w1.heap.size:=hg.size;have hob:∀g,av.ownBlock=some g→cb<g∧g≠gf∧g≠pb∧g≠fb∧g≠xb∧g<top:=fun g hg=>⟨(ownsRow_base h.arr g hg).1,h.dis g hg⟩;have hne:∀g,(g≤cb∨g=gf∨g=pb∨g=fb∨g=xb)→some g≠av.ownBlock:=fun g hg e=>by have:=hob g e.symm;omega
 have hne2:∀g,g≠pb→some g≠some pb:=fun g hg e=>hg (Option.some.inj e);have hob':∀g,av'.ownBlock=some g→g≠gf∧g≠pb∧g≠fb∧g≠xb∧g<top':=fun g hg=>by
  rcases hat g hg with h1|h1
  ·have:=hob g h1;omega
  ·omega
 have hK:∀b,KW W cb gf pb fb xb av.ownBlock b→b<w.heap.size→KW W cb gf pb fb xb av'.ownBlock b:=fun b hk hl=>⟨hk.lo,hk.c,hk.g,hk.p,hk.f,hk.x,fun e=>by
  rcases hat b e with h1|h1
  ·exact hk.a h1
  ·omega⟩
 have hpg:∀(pv lv bv:Value) (q:LF),PartG (fun b=>KW W cb gf pb fb xb av.ownBlock b∧b<top) w pv lv bv q→PartG (fun b=>KW W cb gf pb fb xb av'.ownBlock b∧b<top') w' pv lv bv q:=fun pv lv bv q hq=>
  ((hq.size.grown hg (fun r e hk=>hk.1.1.a e)).grown hg2 (fun r e hk=>hk.1.1.p (Option.some.inj e).symm)).weak fun b hb=>⟨hK b hb.1.1 hb.2,om0⟩
 exact{h with
  below:=(hb.grown hg hsz0 (fun r e=>by have:=hob r e;omega)).grown hg2 om0 sx0
  src:=(h.src.kept hg (fun r e=>by have:=hob r e;omega)).kept hg2 sx0
  out:=(h.out.kept hg (hne _ om0)).kept hg2 (hne2 _ om0)
  var:=(h.var.kept hg (hne _ om0)).kept hg2 (hne2 _ om0)
  c:=(h.c.kept hg (hne _ om0)).kept hg2 (hne2 _ om0)
  p:=hx
  rf:=(h.rf.kept hg (hne _ om0)).kept hg2 (hne2 _ om0)
  rx:=(h.rx.kept hg (hne _ om0)).kept hg2 (hne2 _ om0)
  arr:=ownsRow_kept' ho hg2 (by
   cases hv:av'.ownBlock with
   |none=>exact .inl rfl
   |some g=>right;intro e;obtain rfl:=Option.some.inj e;exact(hob' g hv).2.1 rfl)
  dis:=hob'
  fns:=ownsRow_kept' (ownsRow_kept' h.fns hg (.inr (fun e=>hne gf om0 e))) hg2 (.inr (fun e=>hne2 gf om0 e))
  fsp:=fun q hq=>hpg _ _ _ _ (h.fsp q hq)
  fp:=hpg _ _ _ _ h.fp
  xp:=((h.xp.size.grown hg (fun r e hk=>hk.1.a e)).grown hg2 (fun r e hk=>hk.1.p (Option.some.inj e).symm)).weak fun b hb=>hK b hb.1 hb.2
  nA:=hn
  la:=hl}
theorem WX.putf (h:WX W vg cb gf pb fb xb cf top w av fc ars fs f x) {k:Nat} (hk:k<fs.length):WX W vg cb gf pb fb xb cf top (w.setCells gf (k*4) (fgEnc f)) av fc ars (fs.set k f) f x:=by
 have e1:=h.lv;have e2:=h.l1;have e3:=h.l2;have e4:=h.l3;have e5:=h.l4;have e6:=h.l5;have hg2:w.grownBy (w.setCells gf (k*4) (fgEnc f)) (some gf):=setCells_grown _ _ _;have hne2:∀g,g≠gf→some g≠some gf:=fun g hg e=>hg (Option.some.inj e);have hb:=h.below;have hsz0:=hb.size;have hK2:∀r,some gf=some r→ ¬(KW W cb gf pb fb xb av.ownBlock r∧r<top):=fun r e hk=>hk.1.g (Option.some.inj e).symm;exact{h with
  below:=hb.grown hg2 om0 sx0
  src:=h.src.kept hg2 sx0
  out:=h.out.kept hg2 (hne2 _ om0)
  var:=h.var.kept hg2 (hne2 _ om0)
  c:=h.c.kept hg2 (hne2 _ om0)
  p:=by rw[List.length_set];exact h.p.kept hg2 (hne2 _ om0)
  rf:=h.rf.kept hg2 (hne2 _ om0)
  rx:=h.rx.kept hg2 (hne2 _ om0)
  arr:=ownsRow_kept' h.arr hg2 (h.own (.inr (.inl rfl)))
  fns:=by rw[List.length_set];exact OwnS.set h.fns fgEnc_len dc0 hk f
  fsp:=fun q hq=>by
   rcases List.mem_or_eq_of_mem_set hq with hq|rfl
   ·exact(h.fsp q hq).grown hg2 hK2
   ·exact h.fp.grown hg2 hK2
  fp:=h.fp.grown hg2 hK2
  xp:=h.xp.grown hg2 (fun r e hk=>hk.g (Option.some.inj e).symm)
  nF:=fun q hq=>by
   rcases List.mem_or_eq_of_mem_set hq with hq|rfl
   ·exact h.nF q hq
   ·exact h.nf
  lf:=by rw[List.length_set];exact h.lf}
theorem WX.px' (h:WX W vg cb gf pb fb xb cf top w av fc ars fs f x):PX (W.heap.size+1≤·) w av (.slice (some (gf,0)) fs.length fc) ⟨ars,fs.map FG.f⟩:=by
 have e1:=h.lv;have e2:=h.l1;refine⟨(h.arr.arrs (oh0 h.la)).weak (fun b hb=>(by omega:W.heap.size+1≤b)) i20, ?_⟩;exact(h.fns.mono (show W.heap.size+1≤cb+1 by omega)).fgs (oh0 h.lf) fun q hq=>(h.fsp q hq).weak fun b hb=>by have:=hb.1.lo;omega
theorem WX.thn1 (h:WX W vg cb gf pb fb xb cf top w av fc ars fs f x) {g:Nat} (hr:Row w g 55 (dEnc x)) (hg:KW W cb gf pb fb xb av.ownBlock g):SX (KW W cb gf pb fb xb av.ownBlock) w (.slice (some (g,0)) 1 1) [x.s]:=by
 obtain⟨d1,h1⟩:=h.xp.t;obtain⟨d2,h2⟩:=h.xp.e;refine⟨max d1 d2+1,RSlB.one hr hg rfl ?_⟩;exact⟨rfl,rfl,h.xp.a,h1.weak (fun _ h=>h) (fun _ _ h'=>RS.le (Nat.le_max_left _ _) h'),h2.weak (fun _ h=>h) (fun _ _ h'=>RS.le (Nat.le_max_right _ _) h')⟩
theorem WX.ifW {g1 g2:Nat} {e:LE} {ya:Option Addr} {yc:Nat} (h:WX W vg cb gf pb fb xb cf top w av fc ars fs f x) (h1:Row w g1 57 (eEnc ⟨e,ya,yc⟩)) (h2:Row w g2 55 (dEnc x)) (hex:EX (KW W cb gf pb fb xb av.ownBlock) w (.slice ya e.args.length yc) e)
  (k1:KW W cb gf pb fb xb av.ownBlock g1) (k2:KW W cb gf pb fb xb av.ownBlock g2) (hod:OdE e):
  WX W vg cb gf pb fb xb cf top (w.setRow xb #[I 3,S [], .slice (some (g1,0)) 1 1, .slice none 0 0, .slice (some (g2,0)) 1 1]) av fc ars fs f ⟨.mk 3 [] [e] [] [x.s],some (g1,0),1,none,0,some (g2,0),1⟩:=by
 refine h.setx (.inl rfl) ⟨rfl,rfl,rfl,Nat.le_refl _,fun _ _ _=>rfl⟩ nx0 setRow_grown (setRow_heap _ _ _ _ _ _ h.rx) ⟨?_,SX.nil _ _, ?_⟩ (OdS.of NmG.nil (fun y hy=>by obtain rfl:=List.mem_singleton.1 hy;exact hod) nx0 (fun y hy=>by obtain rfl:=List.mem_singleton.1 hy;exact h.nx) (tot_e h.nx.2.2))
 ·obtain⟨d,hd⟩:=hex;refine EX.grown ⟨d+1, ?_⟩ setRow_grown (fun r e hk=>hk.x (Option.some.inj e).symm);refine RSlB.one (R:=RE (d+1) (KW W cb gf pb fb xb av.ownBlock)) h1 k1 rfl ?_;exact⟨rfl,rfl,rfl,rfl,hd⟩
 ·exact SX.grown (h.thn1 h2 k2) setRow_grown (fun r e hk=>hk.x (Option.some.inj e).symm)
theorem WX.whW {g1 g2:Nat} {e:LE} {ya:Option Addr} {yc:Nat} (h:WX W vg cb gf pb fb xb cf top w av fc ars fs f x) (h1:Row w g1 57 (eEnc ⟨e,ya,yc⟩)) (h2:Row w g2 55 (dEnc x)) (hex:EX (KW W cb gf pb fb xb av.ownBlock) w (.slice ya e.args.length yc) e)
  (k1:KW W cb gf pb fb xb av.ownBlock g1) (k2:KW W cb gf pb fb xb av.ownBlock g2) (hod:OdE e):
  WX W vg cb gf pb fb xb cf top (w.setRow xb #[I 4,S [], .slice (some (g1,0)) 1 1, .slice (some (g2,0)) 1 1, .slice none 0 0]) av fc ars fs f ⟨.mk 4 [] [e] [x.s] [],some (g1,0),1,some (g2,0),1,none,0⟩:=by
 refine h.setx (.inl rfl) ⟨rfl,rfl,rfl,Nat.le_refl _,fun _ _ _=>rfl⟩ nx0 setRow_grown (setRow_heap _ _ _ _ _ _ h.rx) ⟨?_, ?_,SX.nil _ _⟩ (OdS.of NmG.nil (fun y hy=>by obtain rfl:=List.mem_singleton.1 hy;exact hod) (fun y hy=>by obtain rfl:=List.mem_singleton.1 hy;exact h.nx) nx0 (tot_t h.nx.2.2))
 ·obtain⟨d,hd⟩:=hex;refine EX.grown ⟨d+1, ?_⟩ setRow_grown (fun r e hk=>hk.x (Option.some.inj e).symm);refine RSlB.one (R:=RE (d+1) (KW W cb gf pb fb xb av.ownBlock)) h1 k1 rfl ?_;exact⟨rfl,rfl,rfl,rfl,hd⟩
 ·exact SX.grown (h.thn1 h2 k2) setRow_grown (fun r e hk=>hk.x (Option.some.inj e).symm)
theorem WX.bodyApp {wd w1 w2 w3:World} {g2 base d1 d2:Nat} {u1 u2:Value} {n1 n2:List Value} (h:WX W vg cb gf pb fb xb cf top wd av fc ars fs f x)
  (hn1:∀i y,f.f.body[i]? =some y→∃C:Nat→Value,RS d1 (fun b=>(KW W cb gf pb fb xb av.ownBlock b∧b<top)∧b<wd.heap.size) w1 C y∧∀j,j<5→n1[i*5+j]? =some (C j)) (g12:w1.grownBy w2 none)
  (hn2:∀i y,[x.s][i]? =some y→∃C:Nat→Value,RS d2 (fun b=>KW W cb gf pb fb xb av.ownBlock b∧(b<wd.heap.size∨b=g2)) w2 C y∧∀j,j<5→n2[i*5+j]? =some (C j)) (g23:w2.grownBy w3 u1.ownBlock)
  (hl1:n1.length=f.f.body.length*5) (ho2:w3.ownsRow base 55 5 u2 (0+f.f.body.length+ [x.s].length) ([]++n1++n2)) (hob:∀r,u1.ownBlock=some r→wd.heap.size≤r∧r≠g2) (hb:wd.heap.size≤base) (hg2:g2<w3.heap.size) (hz:wd.heap.size≤w3.heap.size) (hbl:f.f.body.length≤4):
  SX (fun b=>KW W cb gf pb fb xb av.ownBlock b∧b<max top w3) w3 u2 (f.f.body++ [x.s]):=by
 refine SX_app (d1:=d1) (d2:=d2) (n1:=n1) (n2:=n2) (base:=base) (by rw[List.nil_append,Nat.zero_add]at ho2;exact ho2) hl1 (fun i y hy=> ?_) (fun i y hy=> ?_) (by simp only[List.length_cons,List.length_nil];omega) (fun q hq=> ?_)
 ·obtain⟨C,hC,hj⟩:=hn1 i y hy;refine⟨C,RS.weak _ (fun b hb=>⟨hb.1.1,om0⟩) (RS.grown _ g23 (fun r e hb=> ?_) (RS.grown _ g12 nx0 hC)),hj⟩;have:=hob r e;omega
 ·obtain⟨C,hC,hj⟩:=hn2 i y hy;refine⟨C,RS.weak _ (fun b hb=>⟨hb.1,om0⟩) (RS.grown _ g23 (fun r e hb=> ?_) hC),hj⟩;have h1:=hob r e;omega
 ·have hk:=ownsRow_base ho2 q hq;exact⟨h.new om0,om0⟩
theorem WX.od (h:WX W vg cb gf pb fb xb cf top w av fc ars fs f x):OdP ⟨ars,fs.map FG.f⟩:=by
 refine⟨h.nA,fun q hq=> ?_, ?_⟩
 ·obtain⟨p,hp,rfl⟩:=List.mem_map.1 hq;exact h.nF p hp
 ·show ars.length+(fs.map FG.f).length≤1000;rw[List.length_map];have:=h.la;have:=h.lf;omega
end
end
end Go.Proofs.YtngglbakkedaiaaGreatDoor
