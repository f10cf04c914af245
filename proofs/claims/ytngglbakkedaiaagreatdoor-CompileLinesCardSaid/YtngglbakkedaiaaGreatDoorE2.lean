import Derived.Test.YtngglbakkedaiaaGreatDoorE7
set_option linter.all false
namespace Go.Proofs.YtngglbakkedaiaaGreatDoor
open Go.RowKit Go.Shelf
attribute [local go_sem] Oper.semAt_some
abbrev fdMainW:FD:=⟨⟨wMain,0,0,[]⟩,none,0,none,0,none,0⟩
theorem fdMainW_part (B:Nat→Prop) (w:World):PartF B w fdMainW:=⟨RSlB.nil _ _ _ _,RSlB.nil _ _ _ _,0,RSlB.nil _ _ _ _⟩
theorem grown_reflW (w:World) (row:Option Nat):w.grownBy w row:=⟨rfl,rfl,rfl,Nat.le_refl _,fun _ _ _=>rfl⟩
theorem nmFW_at {k:Nat} (h1:0<k) (h2:k<3): [S ([102]:Str),S nG,S nH][k]? =some (S (nmF k)):=by
 have:k=1∨k=2:=om0;rcases this with rfl|rfl<;>rfl
abbrev cFr (free:Bool):List Value:= [.slice none 0 0, .slice none 0 0, .slice none 0 0, .bool free, .bool false]
abbrev p2W:List Value:= [.slice none 0 0, .slice none 0 0]
theorem nmAW_at {k:Nat} (h1:0<k) (h2:k<3): [S ([97]:Str),S nB,S nC][k]? =some (S (nmA k)):=by
 have:k=1∨k=2:=om0;rcases this with rfl|rfl<;>rfl
theorem szAW_at {r:Nat} (h:r<4):∃z:Nat,1≤z∧z≤1000∧ [I 1,I 4,I 10,I 1000][r]? =some (I z):=by
 have:r=0∨r=1∨r=2∨r=3:=om0;rcases this with rfl|rfl|rfl|rfl
 ·exact⟨1,dc0,dc0,rfl⟩
 ·exact⟨4,dc0,dc0,rfl⟩
 ·exact⟨10,dc0,dc0,rfl⟩
 ·exact⟨1000,dc0,dc0,rfl⟩
theorem nm_raw:∀x∈nmP++nmL++nmG,NmG x:=fun x hx=>⟨(nm_ok x hx).1,by
 have h:∀x∈nmP++nmL++nmG,x.length≤100:=dc0
 exact h x hx⟩
theorem main_raw:NmG wMain:=nm_raw _ dc0
theorem nmF_raw {k:Nat} (h1:0<k) (h2:k<3):NmG (nmF k):=by
 have:k=1∨k=2:=om0;rcases this with rfl|rfl<;>exact nm_raw _ dc0
theorem nmA_raw {k:Nat} (h1:0<k) (h2:k<3):NmG (nmA k):=by
 have:k=1∨k=2:=om0;rcases this with rfl|rfl<;>exact nm_raw _ dc0
def cW (free:Bool):Sc:=⟨free,NmG,NmG,fun x n=>NmG x∧n≤6⟩
structure ArrO (pb nb:Nat) (w:World) (v:Value) (ars:List LA):Prop where
 own:OwnS 2 60 a2Enc w (pb+1) v ars
 lt:∀g,v.ownBlock=some g→g<nb
theorem ArrO.grown {pb nb:Nat} {w w':World} {v:Value} {ars:List LA} {row:Option Nat} (h:ArrO pb nb w v ars) (hg:w.grownBy w' row) (hr:∀r,row=some r→ ¬(pb<r∧r<nb)) (_:∀(C:Nat→Value) (x:LA),RArr w C x→RArr w' C x):ArrO pb nb w' v ars:=by
 refine⟨ownsRow_kept' h.own hg ?_,h.lt⟩;cases hv:v.ownBlock with
 |none=>exact .inl rfl
 |some g=>
  right;intro e;exact hr g e.symm ⟨(ownsRow_base h.own g hv).1,h.lt g hv⟩
theorem ArrO.le {pb nb nb':Nat} {w:World} {v:Value} {ars:List LA} (h:ArrO pb nb w v ars) (hn:nb≤nb'):ArrO pb nb' w v ars:=⟨h.own,fun g hg=>Nat.lt_of_lt_of_le (h.lt g hg) hn⟩
theorem ArrO.rsl {pb nb:Nat} {w:World} {v:Value} {ars:List LA} (h:ArrO pb nb w v ars) (hl:ars.length≤1000000000):RSlB (pb<·) 2 RArr w v ars:=(h.own.arrs hl).weak (fun b hb=>hb) fun _ _ h=>h
structure RawW (free:Bool) (ars:List LA) (fs:List PQ):Prop where
 arr:∀a∈ars,NmG a.name
 arrs:ars.length≤2
 some_:fs≠ []
 fns:fs.length≤3
 fn:∀q∈fs,NmG q.nm∧q.np≤6∧q.nl≤5∧q.body.length≤4∧∀s∈q.body,DrS (cW free) 4 free s
set_option maxRecDepth 100000 in
set_option maxHeartbeats 8000000 in
theorem prog14W_any (free:Bool) (W:World) (v:Value) (l:List Int) (hl:RInts W v l) (hc:∃a c,v= .slice a l.length c∧l.length≤c):
  Calls Tryz.prog 6 #[v, .bool free] W fun en w'=>∃(av fv:Value) (ars:List LA) (done:List FD) (pb nb nc:Nat),en= .returned (.agg #[av,fv])∧RawW free ars (done.map FD.q)∧W.heap.size≤pb∧ArrO pb nb w' av ars∧FnI w' nb nc fv done∧nb≤nc∧pb<nb∧Below W W w':=by
 obtain⟨Q,hQ⟩:∃Q:Ending→World→Prop,Q=fun en w'=>∃(av fv:Value) (ars:List LA) (done:List FD) (pb nb nc:Nat),en= .returned (.agg #[av,fv])∧RawW free ars (done.map FD.q)∧W.heap.size≤pb∧ArrO pb nb w' av ars∧FnI w' nb nc fv done∧nb≤nc∧pb<nb∧Below W W w':=⟨_,rfl⟩;rw[←hQ];have HQ:=hqz9 hQ;clear hQ;obtain⟨a,c,rfl,hlc⟩:=hc;have hlt:∀n,n≤l.length→n≤1000000000→RSlB (·<W.heap.size) 1 RInt W (.slice a n c) (l.take n):=fun n h1 h2=>RInts.take hl h1 h2;have⟨L,hL⟩:=xq l.length;rw[←hL]at hlc hlt⊢;have HLT:=hqz9 hlt;have HLN:=hqz9 hL;clear hl hlt hL;obtain⟨w1,hw1⟩:∃w1,w1=(W.alloc (.cells #[.slice none 0 0, .slice none 0 0] 27)).alloc (.cells #[.slice a L c, .int .i64 0] 44):=⟨_,rfl⟩;have hwe:=hw1.symm;have HB1:=hqz9 (show Below W W w1 by rw[hw1];exact below_a2 _ _ _);have HR1:=hqz9 (show Row w1 W 27 p2W by rw[hw1];exact heap_old _ _ hn0);have hr2:Row w1 (W.heap.size+1) 44 [.slice a L c,I 0]:=by rw[hw1];exact heap_at sm0
 have HR2:=hqz9 hr2;clear hw1 hr2;go_enter Tryz.func6,Tryz.ntmps6;go_upto_region 2 with(fail)
 rename_i KR hKR K2 hK2;have hrest:∀(x15 x16 x17 x18 x19 x20 x21 x22 x23 x24 x25:Value) (w2:World),Below W W w2→Row w2 W 27 p2W→Src (W.heap.size+1) w2→KR {tmps:= #[.slice a L c, .bool free,undef,undef, .pointer (some ⟨W.heap.size,0,none⟩), .pointer (some ⟨W.heap.size+1,0,none⟩),undef,undef,undef,undef,undef,undef,undef,undef,undef,x15,x16,x17,x18,x19,x20,x21,x22,x23,x24,x25,undef,undef,undef,undef,undef,undef,undef,undef,undef,undef,undef,undef,undef,undef,undef,undef,undef,undef,undef,undef,undef,undef,undef,undef,undef,undef,undef,undef,undef,undef,undef,undef,undef,undef,undef,undef,undef,undef,undef,undef,undef,undef,undef,undef,undef,undef,undef,undef,undef,undef,undef,undef,undef,undef,undef,undef,undef,undef,undef,undef,undef,undef,undef,undef,undef,undef,undef,undef,undef,undef,undef,undef,undef,undef,undef,undef,undef,undef,undef,undef,undef,undef,undef,undef,undef,undef,undef,undef,undef,undef,undef,undef,undef,undef],defers:= []} w2:=by
  intro x15 x16 x17 x18 x19 x20 x21 x22 x23 x24 x25 w2 hb2 hr2 hs2;refine hKR _ _ ?_;clear hKR hK2 KR K2;have hl2:=hs2.lt;have HB2:=hqz9 hb2;have HO2:=hqz9 hr2;have HS2:=hqz9 hs2;clear hb2 hr2 hs2 HB1 HR1 HR2 HLT HLN;go_upto_region 6 with(fail)
  obtain⟨w3,hw3⟩:∃w3,w3=(w2.alloc (.cells #[.slice none 0 0, .slice none 0 0, .slice none 0 0, .bool free, .bool false] 48)).alloc (.cells #[.slice none 0 0, .slice none 0 0] 27):=⟨_,rfl⟩;have hg3:w2.grownBy w3 none:=by rw[hw3];exact(alloc_grown _ _ none).trans ag0
  have hpg3:PgI W w2 (w2.heap.size+1) (cFr free) p2W w3:=by
   refine⟨HB2.grown hg3 HB2.size nx0,HO2.kept hg3 sm0, ?_, ?_,HS2.kept hg3 nx0,hl2,Nat.lt_succ_self _⟩
   ·rw[hw3];exact heap_old _ _ hn0
   ·rw[hw3];exact heap_at sm0
  rw[←hw3];have⟨cb,hcb⟩:=xq w2.heap.size;have⟨pb,hpb⟩:=xq (w2.heap.size+1);rw[←hpb,←hcb]at hpg3;rw[←hpb,←hcb];have hlc2:=hpg3.lc;have hlp2:=hpg3.lp;have hl3:=hpg3.lt;have HP3:=hqz9 hpg3;clear hw3 hg3 hpg3 hcb hpb HB2 HO2 HS2 hl2;go_upto_region 7 with(go_at_call 12;refine(next25_any (W.heap.size+1) 3 w3 HP3.src om0 om0).mono ?_;rintro e w4⟨⟨r,rfl,hr0,hr3⟩,hs4⟩;obtain⟨n1,rfl⟩:=nat_of hr0;have HP4:=hqz9 (HP3.draw hs4);clear hs4 hr0)
  go_loopg [8] n1 (fun gh i wr=>∃k:Nat,gh=k∧i=I k∧Hid (k≤n1∧∃(ars:List LA) (arv:Value),ars.length+k=n1∧(∀x∈ars,NmG x.name)∧PgI W cb pb (cFr free) [arv, .slice none 0 0] wr∧OwnS 2 60 a2Enc wr (pb+1) arv ars))
  case atStart=>exact⟨n1,rfl,rfl,hqz9 ⟨Nat.le_refl _,[],_,sm0,nx0,HP4.out,OwnS.nil⟩⟩
  case round=>
   obtain⟨k,hg,rfl,HH⟩:=hrel;obtain⟨wo,rfl⟩:=xq wr;obtain⟨hkn,ars,arv,hnm,hsz,hpg,hown⟩:=HH.out;have HPG:=hqz9 hpg;have HOWN:=hqz9 hown;have HNM:=hqz9 hnm;have HSZ:=hqz9 hsz;clear HH hpg hown hnm hsz;by_cases hk0:0<k
   ·have hk0z:(0:Int)<(k:Int):=om0;have hk3:k<3:=om0;go_upto_region 9 with(fail)
    have hsb9:W.heap.size+1<wo.heap.size:=by have:=HPG.lt;have:=HPG.lc;have:=HPG.lp;omega
    have hsg0:SG (W.heap.size+1) wo wo:=⟨⟨rfl,rfl,rfl,Nat.le_refl _,fun _ _ _=>rfl⟩,HPG.src⟩;refine(wpIn_wide (n:=8)).1 ?_;refine wpIn_region_rvP kr0 [11] dc0 kr0 kr0 (fun vs=>by kernel_rfl)
     (fun st us X=>SG (W.heap.size+1) wo X∧match st with
      |0=>True
      |_=>∃g z:Nat,us 10= .pointer (some ⟨g,0,none⟩)∧wo.heap.size≤g∧Row X g 60 [S (nmA k),I z]∧1≤z∧z≤1000)
     (StepX 60 (W.heap.size+1) wo)
     (fun i v X=>match i with
      |0=>∃g,v= .slice (some ⟨g,0,none⟩) 3 3∧wo.heap.size≤g∧Row X g 9 [S ([97]:Str),S nB,S nC]
      |1=>v=I k
      |2=>∃g,v= .pointer (some ⟨g,k,none⟩)∧wo.heap.size≤g∧Row X g 9 [S ([97]:Str),S nB,S nC]
      |3=>v=S (nmA k)
      |4=>∃g,v= .slice (some ⟨g,0,none⟩) 4 4∧wo.heap.size≤g∧Row X g 3 [I 1,I 4,I 10,I 1000]
      |5=>v= .pointer (some ⟨W.heap.size+1,0,none⟩)
      |6=>∃r:Nat,v=I r∧r<4
      |7=>∃g r,v= .pointer (some ⟨g,r,none⟩)∧r<4∧wo.heap.size≤g∧Row X g 3 [I 1,I 4,I 10,I 1000]
      |8=>∃z:Nat,v=I z∧1≤z∧z≤1000
      |9=>∃z:Nat,v= .agg #[S (nmA k),I z]∧1≤z∧z≤1000
      |10=>∃(g:Nat) (cs:List Value),v= .pointer (some ⟨g,0,none⟩)∧wo.heap.size≤g∧cs.length=2∧Row X g 60 cs
      |_=>True) ?h0 ?hst ?hop ?hend
    case h0=>exact⟨⟨⟨rfl,rfl,rfl,Nat.le_refl _,fun _ _ _=>rfl⟩,HPG.src⟩,trivial⟩
    case hst=>
     intro j v X X' hst hΦ
     match j,hΦ with
     |0,⟨g,h1,h2,h3⟩=>exact⟨g,h1,h2,hst.row h3 dc0 h2 hsb9⟩
     |1,h=>exact h
     |2,⟨g,h1,h2,h3⟩=>exact⟨g,h1,h2,hst.row h3 dc0 h2 hsb9⟩
     |3,h=>exact h
     |4,⟨g,h1,h2,h3⟩=>exact⟨g,h1,h2,hst.row h3 dc0 h2 hsb9⟩
     |5,h=>exact h
     |6,h=>exact h
     |7,⟨g,r,h1,h0,h2,h3⟩=>exact⟨g,r,h1,h0,h2,hst.row h3 dc0 h2 hsb9⟩
     |8,h=>exact h
     |9,h=>exact h
     |10,⟨g,cs,h1,h2,h4,h3⟩=>obtain⟨cs',h5,h6⟩:=hst.new g cs h2 h3;exact⟨g,cs',h1,h2,h5.trans h4,h6⟩
     |j+11,h=>trivial
    case hop=>
     refine⟨?_, ?_, ?_, ?_, ?_, ?_, ?_, ?_, ?_, ?_, ?_, ?_,trivial⟩
     ·rintro stg a W4 vs ho hstg hC hΦ hsz hr;obtain rfl:=rgStage_k hstg 0 kr0 kr0;refine rg_val ho rfl t20 ic0 (v:= .slice (some ⟨W4.heap.size,0,none⟩) 3 3) (W':=W4.alloc (.cells #[.string ⟨#[97]⟩, .string ⟨#[98]⟩, .string ⟨#[99]⟩] 9)) ?_ ⟨_,rfl,⟨hC.1.post ag0 hsb9 nx0,trivial⟩,StepX.al _ _ _ _ _ hsb9,_,rfl,hC.1.size,heap_new _ _⟩;go_simp
     ·rintro stg a W4 vs ho hstg hC hΦ hsz hr;obtain rfl:=rgStage_k hstg 0 kr0 kr0;have r1:a.tmps.getD 8 undef=(I k):=(hr 8 sl0).trans (show slotOf _ _ vs _ 8=(I k)from by kernel_rfl);refine rg_val ho rfl t20 ic0 (v:=I k) (W':=W4) ?_ ⟨_,rfl,hC,StepX.refl _ _ _ _ hsb9,rfl⟩;go_simp
     ·rintro stg a W4 vs ho hstg hC hΦ hsz hr;obtain rfl:=rgStage_k hstg 0 kr0 kr0;have r1:a.tmps.getD 34 undef=vs 0:=(hr 34 sl0).trans (show slotOf _ _ vs _ 34=vs 0 from by kernel_rfl);have r2:a.tmps.getD 35 undef=vs 1:=(hr 35 sl0).trans (show slotOf _ _ vs _ 35=vs 1 from by kernel_rfl);obtain⟨g,hv0,hg0,hrow⟩:=hΦ 0 kr0;have hv1:vs 1=I k:=hΦ 1 kr0;rw[hv0]at r1;rw[hv1]at r2;have hkn: ¬(3:Int)≤k:=om0;refine rg_val ho rfl t20 ic0 (v:= .pointer (some ⟨g,k,none⟩)) (W':=W4) ?_ ⟨_,rfl,hC,StepX.refl _ _ _ _ hsb9,g,rfl,hg0,hrow⟩;go_simp
     ·rintro stg a W4 vs ho hstg hC hΦ hsz hr;obtain rfl:=rgStage_k hstg 0 kr0 kr0;have r1:a.tmps.getD 36 undef=vs 2:=(hr 36 sl0).trans (show slotOf _ _ vs _ 36=vs 2 from by kernel_rfl);obtain⟨g,hv2,hg0,hrow⟩:=hΦ 2 kr0;rw[hv2]at r1;have ck:=(hrow.cell k).trans (nmAW_at hk0 hk3);refine rg_val ho rfl t20 ic0 (v:=S (nmA k)) (W':=W4) ?_ ⟨_,rfl,hC,StepX.refl _ _ _ _ hsb9,rfl⟩;go_simp
     ·rintro stg a W4 vs ho hstg hC hΦ hsz hr;obtain rfl:=rgStage_k hstg 0 kr0 kr0;refine rg_val ho rfl t20 ic0 (v:= .slice (some ⟨W4.heap.size,0,none⟩) 4 4) (W':=W4.alloc (.cells #[I 1,I 4,I 10,I 1000] 3)) ?_ ⟨_,rfl,⟨hC.1.post ag0 hsb9 nx0,trivial⟩,StepX.al _ _ _ _ _ hsb9,_,rfl,hC.1.size,heap_new _ _⟩;go_simp
     ·rintro stg a W4 vs ho hstg hC hΦ hsz hr;obtain rfl:=rgStage_k hstg 0 kr0 kr0;have r1:a.tmps.getD 5 undef=(.pointer (some ⟨W.heap.size+1,0,none⟩)):=(hr 5 sl0).trans (show slotOf _ _ vs _ 5=(.pointer (some ⟨W.heap.size+1,0,none⟩))from by kernel_rfl);refine rg_val ho rfl t20 ic0 (v:= .pointer (some ⟨W.heap.size+1,0,none⟩)) (W':=W4) ?_ ⟨_,rfl,hC,StepX.refl _ _ _ _ hsb9,rfl⟩;go_simp
     ·rintro stg a W4 vs ho hstg hC hΦ hsz hr;obtain rfl:=rgStage_k hstg 0 kr0 kr0;have r1:a.tmps.getD 39 undef=_:=((hr 39 sl0).trans (show slotOf _ _ vs _ 39=vs 5 from by kernel_rfl)).trans (hΦ 5 kr0);refine rg_call ho rfl t20 ic0 (f:=12) (args:= #[.pointer (some ⟨W.heap.size+1,0,none⟩),I 4]) (W':=W4) ?_ se1 (callsIn_wide.2 (next25_any (W.heap.size+1) 4 W4 hC.1.2 om0 om0)) ?_
      ·go_simp
      ·rintro e w5⟨⟨r,rfl,hr0,hr4⟩,hs5⟩;obtain⟨m,rfl⟩:=nat_of hr0;exact⟨I m,rfl,_,rfl,⟨hC.1.trans hs5,trivial⟩,StepX.of hs5.1 hsb9,m,rfl,om0⟩
     ·rintro stg a W4 vs ho hstg hC hΦ hsz hr;obtain rfl:=rgStage_k hstg 0 kr0 kr0;have r1:a.tmps.getD 38 undef=vs 4:=(hr 38 sl0).trans (show slotOf _ _ vs _ 38=vs 4 from by kernel_rfl);have r2:a.tmps.getD 40 undef=vs 6:=(hr 40 sl0).trans (show slotOf _ _ vs _ 40=vs 6 from by kernel_rfl);obtain⟨g,hv4,hg0,hrow⟩:=hΦ 4 kr0;obtain⟨m,hv6,hm4⟩:=hΦ 6 kr0;rw[hv4]at r1;rw[hv6]at r2;have hm4z:(m:Int)<4:=om0;have hkn: ¬(4:Int)≤m:=om0;refine rg_val ho rfl t20 ic0 (v:= .pointer (some ⟨g,m,none⟩)) (W':=W4) ?_ ⟨_,rfl,hC,StepX.refl _ _ _ _ hsb9,g,m,rfl,hm4,hg0,hrow⟩;go_simp
     ·rintro stg a W4 vs ho hstg hC hΦ hsz hr;obtain rfl:=rgStage_k hstg 0 kr0 kr0;have r1:a.tmps.getD 41 undef=vs 7:=(hr 41 sl0).trans (show slotOf _ _ vs _ 41=vs 7 from by kernel_rfl);obtain⟨g,m,hv7,hm4,hg0,hrow⟩:=hΦ 7 kr0;rw[hv7]at r1;obtain⟨z,hz1,hz2,hz⟩:=szAW_at hm4;have ck:=(hrow.cell m).trans hz;refine rg_val ho rfl t20 ic0 (v:=I z) (W':=W4) ?_ ⟨_,rfl,hC,StepX.refl _ _ _ _ hsb9,z,rfl,hz1,hz2⟩;go_simp
     ·rintro stg a W4 vs ho hstg hC hΦ hsz hr;obtain rfl:=rgStage_k hstg 0 kr0 kr0;have r1:a.tmps.getD 37 undef=vs 3:=(hr 37 sl0).trans (show slotOf _ _ vs _ 37=vs 3 from by kernel_rfl);have r2:a.tmps.getD 42 undef=vs 8:=(hr 42 sl0).trans (show slotOf _ _ vs _ 42=vs 8 from by kernel_rfl);have hv3:vs 3=S (nmA k):=hΦ 3 kr0;obtain⟨z,hv8,hz1,hz2⟩:=hΦ 8 kr0;rw[hv3]at r1;rw[hv8]at r2;have h37:37<a.tmps.size:=by rw[hsz];simp
      have h42:42<a.tmps.size:=by rw[hsz];simp
      have q1:a.tmps[37]=S (nmA k):=by simpa [Array.getD,h37]using r1
      have q2:a.tmps[42]=I z:=by simpa [Array.getD,h42]using r2
      refine rg_val ho rfl t20 ic0 (v:= .agg #[S (nmA k),I z]) (W':=W4) ?_ ⟨_,rfl,hC,StepX.refl _ _ _ _ hsb9,z,rfl,hz1,hz2⟩;go_simp
     ·rintro stg a W4 vs ho hstg hC hΦ hsz hr;obtain rfl:=rgStage_k hstg 0 kr0 kr0;refine rg_val ho rfl t20 ic0 (v:= .pointer (some ⟨W4.heap.size,0,none⟩)) (W':=W4.alloc (.cells #[.string ⟨#[]⟩, .int .i64 0] 60)) ?_ ⟨_,rfl,⟨hC.1.post ag0 hsb9 nx0,trivial⟩,StepX.al _ _ _ _ _ hsb9,_,[S [],I 0],rfl,hC.1.size,rfl,heap_new _ _⟩;go_simp
     ·rintro stg a W4 vs ho hstg hC hΦ hsz hr;obtain rfl:=rgStage_k hstg 0 kr0 kr0;have r1:a.tmps.getD 9 undef=vs 10:=(hr 9 sl0).trans (show slotOf _ _ vs _ 9=vs 10 from by kernel_rfl);have r2:a.tmps.getD 43 undef=vs 9:=(hr 43 sl0).trans (show slotOf _ _ vs _ 43=vs 9 from by kernel_rfl);obtain⟨g,cs,hv10,hg0,hcs,hrow⟩:=hΦ 10 kr0;obtain⟨z,hv9,hz1,hz2⟩:=hΦ 9 kr0;rw[hv10]at r1;rw[hv9]at r2;refine rg_row ho rfl 60 (.tmp 9) (.tmp 43) rfl g [S (nmA k),I z] r1 r2 60 cs hrow kr0 hcs sv0 ⟨_,rfl,⟨hC.1.post setRow_grown hsb9 (fun r e=>by cases e;exact hg0),g,z,hv10,hg0,setRow_heap _ _ _ _ _ _ hrow,hz1,hz2⟩,StepX.set hrow hcs.symm,trivial⟩
    case hend=>
     rintro us X⟨hsg,g,z,hv10,hg9,hrow,hz1,hz2⟩ hΦ;simp only[putAll,Act.put,List.setIfInBounds_toArray,List.set_cons_zero,List.set_cons_succ,Nat.zero_add,Nat.reduceAdd];rw[hv10];clear hΦ hv10 hsg0;generalize us 0=y0;generalize us 1=y1;generalize us 2=y2;generalize us 3=y3;generalize us 4=y4;generalize us 5=y5;generalize us 6=y6;generalize us 7=y7;generalize us 8=y8;generalize us 9=y9
     cases free with
     |false=>
      have HPX:=hqz9 (HPG.draw hsg);have HOX:=hqz9 (ownsRow_kept' HOWN.out hsg.1 (by
       cases hv:arv.ownBlock with
       |none=>exact .inl rfl
       |some q=>
        right;intro e;have:=(ownsRow_base HOWN.out q hv).1;have:=HPG.lc;have:=HPG.lp;have:q=W.heap.size+1:=Option.some.inj e;omega))
      have HXN:=hqz9 (nmA_raw hk0 hk3);have c0:=hrow.k0;have c1:=hrow.k1;have p0:=HPX.p.k0;clear hsg hrow;obtain⟨o5,ho5⟩:∃o:Obj,o= .cells #[S (nmA k),I (z:Int)] 60:=⟨_,rfl⟩;have hg5:X.grownBy (X.alloc o5) none:=alloc_grown _ _ none;have HN5:=hqz9 (show Row (X.alloc o5) X 60 [S (nmA k),I (z:Int)] by rw[ho5];exact heap_new _ _);have HO5:=hqz9 (show OwnS 2 60 a2Enc (X.alloc o5) (pb+1) arv ars from OwnS.tag HOX.out hg5 nt0);have HP5:=hqz9 (HPX.kept hg5 nx0);have hle5:pb+1≤(X.alloc o5).heap.size:=HP5.lt;have hll:ars.length≤1000000000:=by have:=HNM.out;omega
      rw[ho5]at HN5 HO5 HP5 hle5;clear ho5 hg5;go_wp2_with (at_builtin;go_loud (refine wpList_appS slArr rfl _ _ rfl a2Enc_len a2Enc_one (pb+1) arv ars rfl HO5.out X.heap.size ⟨nmA k,(z:Int)⟩ rfl (fun j hj=>(cell_of_block HN5.out j).trans (by simp [a2Enc])) hll dc0 hle5 ?_);intro g' cap w6 ho6 hg6 hat6 hlt6;have HO6:=hqz9 ho6;have HP6:=hqz9 (HP5.kept hg6 (fun r e=>by have:=(ownsRow_base HO5.out r e).1;omega));clear ho6 hg6 hat6 hlt6 p0;have f0:=HP6.p.frozen 0;have p0:=HP6.p.cell 0;simp only[List.getElem?_cons_zero]at p0)
      go_roundg (k - 1)
      case measure=>omega
      case rel=>
       refine⟨k - 1,rfl,(by rw[show((k - 1:Nat):Int)=(k:Int) - 1 by omega]),hqz9 ⟨om0,ars++ [⟨nmA k,(z:Int)⟩],_, ?_, ?_,HP6.setp 0 _, ?_⟩⟩
       ·have:=HNM.out;simp only[List.length_append,List.length_cons,List.length_nil];omega
       ·intro x hx;rcases List.mem_append.1 hx with hx|hx
        ·exact HSZ x hx
        ·obtain rfl:=List.mem_singleton.1 hx;exact HXN.out
       ·have h6:OwnS 2 60 a2Enc w6 (pb+1) (.slice (some ⟨g',0,none⟩) (ars.length+1) cap) (ars++ [⟨nmA k,(z:Int)⟩]):=HO6.out;refine ownsRow_kept' h6 (setCell_grown _ _ _ _) (.inr fun e=> ?_);have h7:=(ownsRow_base h6 g' rfl).1;have h8:g'=pb:=Option.some.inj e;omega
     |true=>
      have HSG:=hqz9 hsg;have HPX0:=hqz9 (HPG.draw hsg);have HR9:=hqz9 hrow;have HAC:=hqz9 (array29_any true false (W.heap.size+1) X (.slice none 0 0) (.slice none 0 0) (.slice none 0 0) [] hsg.2 (RSlB.nil _ _ _ _) (.inl rfl));have z0:=HPX0.c.cell 0;have z1:=HPX0.c.cell 1;have z2:=HPX0.c.cell 2;have z3:=HPX0.c.cell 3;have z4:=HPX0.c.cell 4;simp only[cFr,List.getElem?_cons_zero,List.getElem?_cons_succ]at z0 z1 z2 z3 z4;have hgs:W.heap.size+1≠g:=by have:=HPG.lt;have:=HPG.lc;have:=HPG.lp;omega
      clear hsg hrow;go_upto_region 12 with(first|(go_at_call 16;refine HAC.mono ?_;rintro e w2x⟨⟨xn,zn,rfl, -,hxn⟩,hs2⟩;have HXN:=hqz9 (hxn rfl);have HS2:=hqz9 (HSG.out.trans hs2);have HRA:=hqz9 (hs2.row HR9.out (fun e=>hgs e.symm));clear hs2 hxn z0 z1 z2 z3 z4)|(refine sr 60 (.tmp 9) (.tmp 47) g #[S (nmA k),I z] HRA.out ?_))
      have⟨X,hX⟩:=xq (w2x.setRow g #[S xn,I zn]);have hsg:SG (W.heap.size+1) wo X:=by rw[hX];exact HS2.post setRow_grown hsb9 (fun r e=>by cases e;exact hg9)
      have hrow:Row X g 60 [S xn,I zn]:=by rw[hX];exact setRow_heap _ _ _ _ _ _ HRA.out
      rw[←hX];have HPX:=hqz9 (HPG.draw hsg);have HOX:=hqz9 (ownsRow_kept' HOWN.out hsg.1 (by
       cases hv:arv.ownBlock with
       |none=>exact .inl rfl
       |some q=>
        right;intro e;have:=(ownsRow_base HOWN.out q hv).1;have:=HPG.lc;have:=HPG.lp;have:q=W.heap.size+1:=Option.some.inj e;omega))
      clear hX HR9 HRA HPX0;have c0:=hrow.k0;have c1:=hrow.k1;have p0:=HPX.p.k0;clear hsg hrow;obtain⟨o5,ho5⟩:∃o:Obj,o= .cells #[S xn,I zn] 60:=⟨_,rfl⟩;have hg5:X.grownBy (X.alloc o5) none:=alloc_grown _ _ none;have HN5:=hqz9 (show Row (X.alloc o5) X 60 [S xn,I zn] by rw[ho5];exact heap_new _ _);have HO5:=hqz9 (show OwnS 2 60 a2Enc (X.alloc o5) (pb+1) arv ars from OwnS.tag HOX.out hg5 nt0);have HP5:=hqz9 (HPX.kept hg5 nx0);have hle5:pb+1≤(X.alloc o5).heap.size:=HP5.lt;have hll:ars.length≤1000000000:=by have:=HNM.out;omega
      rw[ho5]at HN5 HO5 HP5 hle5;clear ho5 hg5;go_wp2_with (at_builtin;go_loud (refine wpList_appS slArr rfl _ _ rfl a2Enc_len a2Enc_one (pb+1) arv ars rfl HO5.out X.heap.size ⟨xn,zn⟩ rfl (fun j hj=>(cell_of_block HN5.out j).trans (by simp [a2Enc])) hll dc0 hle5 ?_);intro g' cap w6 ho6 hg6 hat6 hlt6;have HO6:=hqz9 ho6;have HP6:=hqz9 (HP5.kept hg6 (fun r e=>by have:=(ownsRow_base HO5.out r e).1;omega));clear ho6 hg6 hat6 hlt6 p0;have f0:=HP6.p.frozen 0;have p0:=HP6.p.cell 0;simp only[List.getElem?_cons_zero]at p0)
      go_roundg (k - 1)
      case measure=>omega
      case rel=>
       refine⟨k - 1,rfl,(by rw[show((k - 1:Nat):Int)=(k:Int) - 1 by omega]),hqz9 ⟨om0,ars++ [⟨xn,zn⟩],_, ?_, ?_,HP6.setp 0 _, ?_⟩⟩
       ·have:=HNM.out;simp only[List.length_append,List.length_cons,List.length_nil];omega
       ·intro x hx;rcases List.mem_append.1 hx with hx|hx
        ·exact HSZ x hx
        ·obtain rfl:=List.mem_singleton.1 hx;exact HXN.out
       ·have h6:OwnS 2 60 a2Enc w6 (pb+1) (.slice (some ⟨g',0,none⟩) (ars.length+1) cap) (ars++ [⟨xn,zn⟩]):=HO6.out;refine ownsRow_kept' h6 (setCell_grown _ _ _ _) (.inr fun e=> ?_);have h7:=(ownsRow_base h6 g' rfl).1;have h8:g'=pb:=Option.some.inj e;omega
   ·have hk0z: ¬(0:Int)<(k:Int):=om0;have hke:k=0:=om0;subst hke;obtain⟨aa,ac,rfl⟩:=HOWN.slice;have har:ArrO pb wo wo (.slice aa ars.length ac) ars:=⟨HOWN.out,fun g hg=>(ownsRow_base HOWN.out g hg).2⟩;have hn13:n1<3:=om0;have HAL:=hqz9 (show ars.length≤2 by have:=HNM.out;omega);have⟨NA,hNA⟩:=xq ars.length;rw[←hNA]at har HPG;have HAR:=hqz9 har;have HNA:=hqz9 hNA;have p0:=HPG.p.cell 0;have f1:=HPG.c.frozen 1;have q1:=HPG.c.cell 1;simp only[cFr,List.getElem?_cons_zero,List.getElem?_cons_succ]at p0 q1;clear har hNA HOWN HNM;go_upto_region 14 with(fail)
    have⟨w7,hw7⟩:=xq (wo.setCell ⟨cb,1,none⟩ (.slice aa NA ac));have hg7:wo.grownBy w7 (some cb):=by rw[hw7];exact setCell_grown _ _ _ _
    have hpg7:=HPG.setc 1 (.slice aa NA ac);rw[←hw7]at hpg7⊢;have hz7:wo.heap.size≤w7.heap.size:=hg7.size;have HP7:=hqz9 hpg7;have HAR7:=hqz9 (show ArrO pb w7 w7 (.slice aa NA ac) ars from(HAR.grown hg7 sx0 i20).le om0);have c2:=HP7.c.cell 2;simp only[cFr,List.set_cons_zero,List.set_cons_succ,List.getElem?_cons_zero,List.getElem?_cons_succ]at c2;clear p0 f1 q1 hw7 hg7 hpg7 hz7 HAR HPG;have hn7:pb<w7.heap.size:=HP7.lt;obtain⟨o8,ho8⟩:∃o:Obj,o= .cells #[S wMain, .slice none 0 0, .slice none 0 0, .slice none 0 0] 51:=⟨_,rfl⟩;have HN8:=hqz9 (show Row (w7.alloc o8) w7 51 (fnEnc fdMainW) by rw[ho8];exact heap_new _ _);have HP8:=hqz9 (HP7.kept (alloc_grown w7 o8 none) nx0);have HAR8:=hqz9 (show ArrO pb w7 (w7.alloc o8) (.slice aa NA ac) ars from HAR7.grown (alloc_grown w7 o8 none) nx0 i20);rw[ho8]at HN8 HP8 HAR8;clear ho8 HAR7;go_upto_region 15 with(at_builtin;refine wpList_appS slFunc rfl _ _ rfl fnEnc_len fnEnc_one w7.heap.size (.slice none 0 0) [] rfl OwnS.nil w7.heap.size fdMainW rfl (fun j hj=>(cell_of_block HN8.out j).trans (by simp [fnEnc])) sm0 dc0 sm0 ?_;intro g' cap w9 ho9 hg9 hat9 hlt9;have HF9:=hqz9 (FnI.app (FnI.nil w7 nl0) (grown_reflW w7 none) nx0 (fdMainW_part _ _) ho9 hg9 rfl hat9);have HP9:=hqz9 (HP8.kept hg9 nx0);have HAR9:=hqz9 (HAR8.grown hg9 nx0 i20);clear ho9 hg9 hat9 hlt9 c2;have f2:=HP9.c.frozen 2;have c2:=HP9.c.cell 2;simp only[cFr,List.set_cons_zero,List.set_cons_succ,List.getElem?_cons_zero,List.getElem?_cons_succ]at c2)
    have⟨wA,hwA⟩:=xq (w9.setCell ⟨cb,2,none⟩ (.slice (some ⟨g',0,none⟩) 1 cap));have hgA:w9.grownBy wA (some cb):=by rw[hwA];exact setCell_grown _ _ _ _
    have hpA:=HP9.setc 2 (.slice (some ⟨g',0,none⟩) 1 cap);rw[←hwA]at hpA⊢;have⟨nb,hnb⟩:=xq w7.heap.size;rw[←hnb]at HF9 HAR9 hn7;have HPA:=hqz9 hpA;have HFA:=hqz9 (HF9.grown hgA sx0);have HARA:=hqz9 (show ArrO pb nb wA (.slice aa NA ac) ars from HAR9.grown hgA sx0 i20);clear c2 f2 hwA hgA hpA hnb HP9 HF9 HAR9 HP8 HAR8 HN8 HP7;go_upto_region 16 with(go_at_call 12;refine(next25_any (W.heap.size+1) 3 wA HPA.src om0 om0).mono ?_;rintro e wB⟨⟨r,rfl,hr0,hr3⟩,hsB⟩;obtain⟨n2,rfl⟩:=nat_of hr0;have HPB:=hqz9 (HPA.draw hsB);have HFB:=hqz9 (HFA.grown hsB.1 sx0);have HARB:=hqz9 (show ArrO pb nb wB (.slice aa NA ac) ars from HARA.grown hsB.1 sx0 i20);clear hsB hr0)
    clear HPA HFA HARA;go_loopg [10] n2 (fun gh i wr=>∃k:Nat,gh=k∧i=I k∧Hid (k≤n2∧∃(hs:List FD) (fnv:Value),hs.length+k=n2+1∧(∀p∈hs,p.q.np≤6∧NmG p.q.nm)∧PgI W cb pb [.slice none 0 0, .slice aa NA ac,fnv, .bool free, .bool false] [.slice aa NA ac, .slice none 0 0] wr∧FnI wr nb nb fnv hs∧ArrO pb nb wr (.slice aa NA ac) ars))
    case atStart=>exact⟨n2,rfl,rfl,hqz9 ⟨Nat.le_refl _,[fdMainW],_,so0,(fun x hx=>by obtain rfl:=List.mem_singleton.1 hx;exact⟨dc0,main_raw⟩),HPB.out,HFB.out,HARB.out⟩⟩
    case round=>
     obtain⟨k,hg,rfl,HH⟩:=hrel;obtain⟨wo2,rfl⟩:=xq wr;obtain⟨hkn,hs,fnv,hnm,hfw,hpg,hfn,harr⟩:=HH.out;have HPG:=hqz9 hpg;have HFN:=hqz9 hfn;have HNM:=hqz9 hnm;have HFW:=hqz9 hfw;have HARR:=hqz9 harr;clear HH hpg hfn hnm hfw harr HPB HFB HARB;by_cases hk0:0<k
     ·have hk0z:(0:Int)<(k:Int):=om0;have hk3:k<3:=om0;go_upto_region 18 with(fail)
      have hsb9:W.heap.size+1<wo2.heap.size:=by have:=HPG.lt;have:=HPG.lc;have:=HPG.lp;omega
      refine(wpIn_wide (n:=8)).1 ?_;refine wpIn_region_rvP kr0 [10] dc0 kr0 kr0 (fun vs=>by kernel_rfl)
       (fun st us X=>SG (W.heap.size+1) wo2 X∧match st with
        |0=>True
        |_=>∃g g2 r:Nat,us 9= .pointer (some ⟨g,0,none⟩)∧wo2.heap.size≤g∧Row X g 51 [S (nmF k), .slice (some ⟨g2,0,none⟩) r 6, .slice none 0 0, .slice none 0 0]∧r≤6∧wo2.heap.size≤g2∧Row X g2 9 (nmP.map S))
       (StepX 51 (W.heap.size+1) wo2)
       (fun i v X=>match i with
        |0=>∃g,v= .slice (some ⟨g,0,none⟩) 3 3∧wo2.heap.size≤g∧Row X g 9 [S ([102]:Str),S nG,S nH]
        |1=>v=I k
        |2=>∃g,v= .pointer (some ⟨g,k,none⟩)∧wo2.heap.size≤g∧Row X g 9 [S ([102]:Str),S nG,S nH]
        |3=>v=S (nmF k)
        |4=>∃g,v= .slice (some ⟨g,0,none⟩) 6 6∧wo2.heap.size≤g∧Row X g 9 (nmP.map S)
        |5=>v= .pointer (some ⟨W.heap.size+1,0,none⟩)
        |6=>∃r:Nat,v=I r∧r<7
        |7=>∃g r:Nat,v= .slice (some ⟨g,0,none⟩) r 6∧r≤6∧wo2.heap.size≤g∧Row X g 9 (nmP.map S)
        |8=>∃g r:Nat,v= .agg #[S (nmF k), .slice (some ⟨g,0,none⟩) r 6, .slice none 0 0, .slice none 0 0]∧r≤6∧wo2.heap.size≤g∧Row X g 9 (nmP.map S)
        |9=>∃(g:Nat) (cs:List Value),v= .pointer (some ⟨g,0,none⟩)∧wo2.heap.size≤g∧cs.length=4∧Row X g 51 cs
        |_=>True) ?h0 ?hst ?hop ?hend
      case h0=>exact⟨⟨⟨rfl,rfl,rfl,Nat.le_refl _,fun _ _ _=>rfl⟩,HPG.src⟩,trivial⟩
      case hst=>
       intro j v X X' hst hΦ
       match j,hΦ with
       |0,⟨g,h1,h2,h3⟩=>exact⟨g,h1,h2,hst.row h3 dc0 h2 hsb9⟩
       |1,h=>exact h
       |2,⟨g,h1,h2,h3⟩=>exact⟨g,h1,h2,hst.row h3 dc0 h2 hsb9⟩
       |3,h=>exact h
       |4,⟨g,h1,h2,h3⟩=>exact⟨g,h1,h2,hst.row h3 dc0 h2 hsb9⟩
       |5,h=>exact h
       |6,h=>exact h
       |7,⟨g,r,h1,h0,h2,h3⟩=>exact⟨g,r,h1,h0,h2,hst.row h3 dc0 h2 hsb9⟩
       |8,⟨g,r,h1,h0,h2,h3⟩=>exact⟨g,r,h1,h0,h2,hst.row h3 dc0 h2 hsb9⟩
       |9,⟨g,cs,h1,h2,h4,h3⟩=>obtain⟨cs',h5,h6⟩:=hst.new g cs h2 h3;exact⟨g,cs',h1,h2,h5.trans h4,h6⟩
       |j+10,h=>trivial
      case hop=>
       refine⟨?_, ?_, ?_, ?_, ?_, ?_, ?_, ?_, ?_, ?_, ?_,trivial⟩
       ·rintro stg a W4 vs ho hstg hC hΦ hsz hr;obtain rfl:=rgStage_k hstg 0 kr0 kr0;refine rg_val ho rfl t20 ic0 (v:= .slice (some ⟨W4.heap.size,0,none⟩) 3 3) (W':=W4.alloc (.cells #[.string ⟨#[102]⟩, .string ⟨#[103]⟩, .string ⟨#[104]⟩] 9)) ?_ ⟨_,rfl,⟨hC.1.post ag0 hsb9 nx0,trivial⟩,StepX.al _ _ _ _ _ hsb9,_,rfl,hC.1.size,heap_new _ _⟩;go_simp
       ·rintro stg a W4 vs ho hstg hC hΦ hsz hr;obtain rfl:=rgStage_k hstg 0 kr0 kr0;have r1:a.tmps.getD 10 undef=(I k):=(hr 10 sl0).trans (show slotOf _ _ vs _ 10=(I k)from by kernel_rfl);refine rg_val ho rfl t20 ic0 (v:=I k) (W':=W4) ?_ ⟨_,rfl,hC,StepX.refl _ _ _ _ hsb9,rfl⟩;go_simp
       ·rintro stg a W4 vs ho hstg hC hΦ hsz hr;obtain rfl:=rgStage_k hstg 0 kr0 kr0;have r1:a.tmps.getD 69 undef=vs 0:=(hr 69 sl0).trans (show slotOf _ _ vs _ 69=vs 0 from by kernel_rfl);have r2:a.tmps.getD 70 undef=vs 1:=(hr 70 sl0).trans (show slotOf _ _ vs _ 70=vs 1 from by kernel_rfl);obtain⟨g,hv0,hg0,hrow⟩:=hΦ 0 kr0;have hv1:vs 1=I k:=hΦ 1 kr0;rw[hv0]at r1;rw[hv1]at r2;have hkn: ¬(3:Int)≤k:=om0;refine rg_val ho rfl t20 ic0 (v:= .pointer (some ⟨g,k,none⟩)) (W':=W4) ?_ ⟨_,rfl,hC,StepX.refl _ _ _ _ hsb9,g,rfl,hg0,hrow⟩;go_simp
       ·rintro stg a W4 vs ho hstg hC hΦ hsz hr;obtain rfl:=rgStage_k hstg 0 kr0 kr0;have r1:a.tmps.getD 71 undef=vs 2:=(hr 71 sl0).trans (show slotOf _ _ vs _ 71=vs 2 from by kernel_rfl);obtain⟨g,hv2,hg0,hrow⟩:=hΦ 2 kr0;rw[hv2]at r1;have ck:=(hrow.cell k).trans (nmFW_at hk0 hk3);refine rg_val ho rfl t20 ic0 (v:=S (nmF k)) (W':=W4) ?_ ⟨_,rfl,hC,StepX.refl _ _ _ _ hsb9,rfl⟩;go_simp
       ·rintro stg a W4 vs ho hstg hC hΦ hsz hr;obtain rfl:=rgStage_k hstg 0 kr0 kr0;refine rg_val ho rfl t20 ic0 (v:= .slice (some ⟨W4.heap.size,0,none⟩) 6 6) (W':=W4.alloc (.cells #[.string ⟨#[112]⟩, .string ⟨#[113]⟩, .string ⟨#[114]⟩, .string ⟨#[115]⟩, .string ⟨#[116]⟩, .string ⟨#[117]⟩] 9)) ?_ ⟨_,rfl,⟨hC.1.post ag0 hsb9 nx0,trivial⟩,StepX.al _ _ _ _ _ hsb9,_,rfl,hC.1.size,heap_new _ _⟩;go_simp
       ·rintro stg a W4 vs ho hstg hC hΦ hsz hr;obtain rfl:=rgStage_k hstg 0 kr0 kr0;have r1:a.tmps.getD 5 undef=(.pointer (some ⟨W.heap.size+1,0,none⟩)):=(hr 5 sl0).trans (show slotOf _ _ vs _ 5=(.pointer (some ⟨W.heap.size+1,0,none⟩))from by kernel_rfl);refine rg_val ho rfl t20 ic0 (v:= .pointer (some ⟨W.heap.size+1,0,none⟩)) (W':=W4) ?_ ⟨_,rfl,hC,StepX.refl _ _ _ _ hsb9,rfl⟩;go_simp
       ·rintro stg a W4 vs ho hstg hC hΦ hsz hr;obtain rfl:=rgStage_k hstg 0 kr0 kr0;have r1:a.tmps.getD 74 undef=_:=((hr 74 sl0).trans (show slotOf _ _ vs _ 74=vs 5 from by kernel_rfl)).trans (hΦ 5 kr0);refine rg_call ho rfl t20 ic0 (f:=12) (args:= #[.pointer (some ⟨W.heap.size+1,0,none⟩),I 7]) (W':=W4) ?_ se1 (callsIn_wide.2 (next25_any (W.heap.size+1) 7 W4 hC.1.2 om0 om0)) ?_
        ·go_simp
        ·rintro e w5⟨⟨r,rfl,hr0,hr4⟩,hs5⟩;obtain⟨m,rfl⟩:=nat_of hr0;exact⟨I m,rfl,_,rfl,⟨hC.1.trans hs5,trivial⟩,StepX.of hs5.1 hsb9,m,rfl,om0⟩
       ·rintro stg a W4 vs ho hstg hC hΦ hsz hr;obtain rfl:=rgStage_k hstg 0 kr0 kr0;have r1:a.tmps.getD 73 undef=vs 4:=(hr 73 sl0).trans (show slotOf _ _ vs _ 73=vs 4 from by kernel_rfl);have r2:a.tmps.getD 75 undef=vs 6:=(hr 75 sl0).trans (show slotOf _ _ vs _ 75=vs 6 from by kernel_rfl);obtain⟨g,hv4,hg0,hrow⟩:=hΦ 4 kr0;obtain⟨m,hv6,hm4⟩:=hΦ 6 kr0;rw[hv4]at r1;rw[hv6]at r2;have hm4z:(m:Int)≤6:=om0;have hkn: ¬(6:Int)<m:=om0;have hkn2: ¬(m:Int)<0:=om0;refine rg_val ho rfl t20 ic0 (v:= .slice (some ⟨g,0,none⟩) m 6) (W':=W4) ?_ ⟨_,rfl,hC,StepX.refl _ _ _ _ hsb9,g,m,rfl,om0,hg0,hrow⟩;go_simp
       ·rintro stg a W4 vs ho hstg hC hΦ hsz hr;obtain rfl:=rgStage_k hstg 0 kr0 kr0;have r1:a.tmps.getD 72 undef=vs 3:=(hr 72 sl0).trans (show slotOf _ _ vs _ 72=vs 3 from by kernel_rfl);have r2:a.tmps.getD 76 undef=vs 7:=(hr 76 sl0).trans (show slotOf _ _ vs _ 76=vs 7 from by kernel_rfl);have hv3:vs 3=S (nmF k):=hΦ 3 kr0;obtain⟨g,r,hv7,hr6,hg0,hrow⟩:=hΦ 7 kr0;rw[hv3]at r1;rw[hv7]at r2;have h72:72<a.tmps.size:=by rw[hsz];simp
        have h76:76<a.tmps.size:=by rw[hsz];simp
        have q1:a.tmps[72]=S (nmF k):=by simpa [Array.getD,h72]using r1
        have q2:a.tmps[76]= .slice (some ⟨g,0,none⟩) r 6:=by simpa [Array.getD,h76]using r2
        refine rg_val ho rfl t20 ic0 (v:= .agg #[S (nmF k), .slice (some ⟨g,0,none⟩) r 6, .slice none 0 0, .slice none 0 0]) (W':=W4) ?_ ⟨_,rfl,hC,StepX.refl _ _ _ _ hsb9,g,r,rfl,hr6,hg0,hrow⟩;go_simp
       ·rintro stg a W4 vs ho hstg hC hΦ hsz hr;obtain rfl:=rgStage_k hstg 0 kr0 kr0;refine rg_val ho rfl t20 ic0 (v:= .pointer (some ⟨W4.heap.size,0,none⟩)) (W':=W4.alloc (.cells #[.string ⟨#[]⟩, .slice none 0 0, .slice none 0 0, .slice none 0 0] 51)) ?_ ⟨_,rfl,⟨hC.1.post ag0 hsb9 nx0,trivial⟩,StepX.al _ _ _ _ _ hsb9,_,[S [], .slice none 0 0, .slice none 0 0, .slice none 0 0],rfl,hC.1.size,rfl,heap_new _ _⟩;go_simp
       ·rintro stg a W4 vs ho hstg hC hΦ hsz hr;obtain rfl:=rgStage_k hstg 0 kr0 kr0;have r1:a.tmps.getD 11 undef=vs 9:=(hr 11 sl0).trans (show slotOf _ _ vs _ 11=vs 9 from by kernel_rfl);have r2:a.tmps.getD 77 undef=vs 8:=(hr 77 sl0).trans (show slotOf _ _ vs _ 77=vs 8 from by kernel_rfl);obtain⟨g,cs,hv9,hg0,hcs,hrow⟩:=hΦ 9 kr0;obtain⟨g2,r,hv8,hr6,hg2,hrow2⟩:=hΦ 8 kr0;rw[hv9]at r1;rw[hv8]at r2;have hne:g2≠g:=fun e=>by
         subst e;unfold Row at hrow hrow2;rw[hrow]at hrow2;simp only[Option.some.injEq,Obj.cells.injEq]at hrow2;exact absurd hrow2.2.1 dc0
        refine rg_row ho rfl 51 (.tmp 11) (.tmp 77) rfl g [S (nmF k), .slice (some ⟨g2,0,none⟩) r 6, .slice none 0 0, .slice none 0 0] r1 r2 51 cs hrow kr0 hcs sv0 ⟨_,rfl,⟨hC.1.post setRow_grown hsb9 (fun r e=>by cases e;exact hg0),g,g2,r,hv9,hg0,setRow_heap _ _ _ _ _ _ hrow,hr6,hg2,hrow2.kept setRow_grown (fun e=>hne (Option.some.inj e))⟩,StepX.set hrow hcs.symm,trivial⟩
      case hend=>
       rintro us X⟨hsg,g,g2,r,hv9,hg9,hrow,hr6,hg2,hrow2⟩ hΦ;simp only[putAll,Act.put,List.setIfInBounds_toArray,List.set_cons_zero,List.set_cons_succ,Nat.zero_add,Nat.reduceAdd];rw[hv9];clear hΦ hv9;generalize us 0=y0;generalize us 1=y1;generalize us 2=y2;generalize us 3=y3;generalize us 4=y4;generalize us 5=y5;generalize us 6=y6;generalize us 7=y7;generalize us 8=y8;have hsX:=hsg.size;have HSG:=hqz9 hsg;have HPX:=hqz9 (HPG.draw hsg);have HARX:=hqz9 (show ArrO pb nb X (.slice aa NA ac) ars from HARR.grown hsg.1 sx0 i20);have HFX:=hqz9 (HFN.grown hsg.1 sx0);have HRX2:=hqz9 hrow2;have c0:=hrow.k0;have c1:=hrow.k1;have c2:=hrow.k2;have c3:=hrow.k3;have q2:=HPX.c.k2;obtain⟨y,hy⟩:∃y:FD,y=⟨⟨nmF k,r,0,[]⟩,some ⟨g2,0,none⟩,6,none,0,none,0⟩:=⟨_,rfl⟩;obtain⟨o5,ho5⟩:∃o:Obj,o= .cells #[S (nmF k), .slice (some ⟨g2,0,none⟩) r 6, .slice none 0 0, .slice none 0 0] 51:=⟨_,rfl⟩;have hg5:X.grownBy (X.alloc o5) none:=alloc_grown _ _ none;have HN5:=hqz9 (show Row (X.alloc o5) X 51 (fnEnc y) by rw[ho5,hy];exact heap_new _ _);have HO5:=hqz9 (show OwnS 4 51 fnEnc (X.alloc o5) nb fnv hs from OwnS.tag HFX.2.1 hg5 nt0);have HP5:=hqz9 (HPX.kept hg5 nx0);have HAR5:=hqz9 (show ArrO pb nb (X.alloc o5) (.slice aa NA ac) ars from HARX.grown hg5 nx0 i20);have hnbX:nb≤wo2.heap.size:=by
        obtain⟨y0,hy0⟩:∃y0,y0∈hs:=by
         cases hs with
         |nil=>exact absurd HNM.out so0
         |cons a l=>exact⟨a,sm0⟩
        rcases HFN.2.1.2 with⟨_,h0⟩|⟨g0,_,_,_,h1,h2,_⟩
        ·exact absurd (List.length_eq_zero_iff.1 h0) (List.ne_nil_of_mem hy0)
        ·have:=(Array.getElem?_eq_some_iff.1 h2).1;omega
       have hle5:nb≤(X.alloc o5).heap.size:=by rw[World.size_alloc];omega
       have hll:hs.length≤1000000000:=by have:=HNM.out;omega
       have HPY:=hqz9 (show PartF (fun b=>nb≤b∧b<X.heap.size∧fnv.ownBlock≠some b) X y by
        have h1:=HFN.2.1;have hb2:nb≤g2∧g2<X.heap.size∧fnv.ownBlock≠some g2:=⟨om0,hrow2.lt,fun e=>by have:=(ownsRow_base h1 _ e).2;omega⟩;rw[hy];exact⟨row_strs hrow2 hb2 hr6 dc0,RSlB.nil _ _ _ _,0,RSlB.nil _ _ _ _⟩)
       rw[ho5]at HN5 HO5 HP5 hle5 HAR5;have HYN:=hqz9 (show y.q.nm=nmF k∧y.q.np≤6 by rw[hy];exact⟨rfl,hr6⟩);clear ho5 hg5 hy hsg hrow hrow2;go_wp2_with (at_builtin;refine wpList_appS slFunc rfl _ _ rfl fnEnc_len fnEnc_one nb fnv hs rfl HO5.out X.heap.size y rfl (fun j hj=>cell_of_block HN5.out j|>.trans sm0) hll dc0 hle5 ?_;intro g' cap w6 ho6 hg6 hat6 hlt6;have HF6:=hqz9 (FnI.app HFX.out (grown_reflW X none) nx0 HPY.out ho6 hg6 rfl hat6);have hown6:∀r,fnv.ownBlock=some r→nb≤r:=(fun r e=>(ownsRow_base HO5.out r e).1);have HP6:=hqz9 (HP5.kept hg6 (fun r e=>by have:=hown6 r e;omega));have HAR6:=hqz9 (HAR5.grown hg6 (fun r e hb=>by have:=hown6 r e;omega) i20);clear ho6 hg6 hat6 hlt6 q2 c0 c1 c2 c3 hown6;have f2:=HP6.c.frozen 2;have q2:=HP6.c.k2)
       go_roundg (k - 1)
       case measure=>omega
       case rel=>
        have hgc:=setCell_grown w6 cb 2 (.slice (some ⟨g',0,none⟩) (hs.length+1) cap);refine⟨k - 1,rfl,(by rw[show((k - 1:Nat):Int)=(k:Int) - 1 by omega]),hqz9 ⟨om0,hs++ [y],_, ?_, ?_,HP6.setc 2 _,HF6.grown hgc sx0,HAR6.grown hgc sx0 i20⟩⟩
        ·have:=HNM.out;simp only[List.length_append,List.length_cons,List.length_nil];omega
        ·intro x hx;rcases List.mem_append.1 hx with hx|hx
         ·exact HFW x hx
         ·obtain rfl:=List.mem_singleton.1 hx;exact⟨HYN.2,by rw[HYN.1];exact nmF_raw hk0 hk3⟩
     ·have hk0z: ¬(0:Int)<(k:Int):=om0;have hke:k=0:=om0;subst hke;go_upto_region 20 with(fail)
      have hll:hs.length≤3:=by have:=HNM.out;omega
      have hhs0:hs≠ []:=fun e=>by have:=HNM.out;rw[e]at this;simp at this
      have HH0:=hqz9 hhs0;have hnb2:nb≤wo2.heap.size:=by
       rcases HFN.2.1.2 with⟨_,h0⟩|⟨g0,_,_,_,h1,h2,_⟩
       ·exact absurd (List.length_eq_zero_iff.1 h0) hhs0
       ·have:=(Array.getElem?_eq_some_iff.1 h2).1;omega
      obtain⟨fa,fc,rfl⟩:=HFN.2.1.slice;have hfr:=HFN.read om0;have⟨nc,hnc⟩:=xq wo2.heap.size;have hpc:pb<nc:=by rw[hnc];exact HPG.lt
      rw[←hnc]at hfr;have⟨NF,hNF⟩:=xq hs.length;rw[←hNF]at hfr HPG hll;have HFR:=hqz9 hfr;have HNF:=hqz9 hNF;clear hfr hNF HFN HNM hhs0;go_upto_region 21 with(fail)
      go_loopg [12] NF (fun gh i wr=>∃k:Nat,gh+k=NF∧i=I k∧Hid (∃(done:List FD) (fv:Value),done.length=k∧(∀p∈done,NmG p.q.nm∧p.q.np≤6∧p.q.nl≤5∧p.q.body.length≤4∧∀s∈p.q.body,DrS (cW free) 4 free s)∧
       PgI W cb pb [.slice none 0 0, .slice aa NA ac, .slice fa NF fc, .bool free, .bool false] [.slice aa NA ac,fv] wr∧FnI wr nb nc fv done∧ArrO pb nb wr (.slice aa NA ac) ars∧
       RSlB (fun b=>nb≤b∧b<nc) 4 (RF (fun b=>nb≤b∧b<nc)) wr (.slice fa NF fc) (hs.map fun p=>p.q.f)∧nc≤wr.heap.size))
      case atStart=>exact⟨0,om0,rfl,hqz9 ⟨[],_,rfl,nx0,HPG.out,FnI.nil _ om0,HARR.out,HFR.out,om0⟩⟩
      case round=>
       obtain⟨k,hg,rfl,HH⟩:=hrel;obtain⟨wo3,rfl⟩:=xq wr;obtain⟨done,fv,hdh,hdd,hpg,hfn,harr,hfr,hnc3⟩:=HH.out;have HPG:=hqz9 hpg;have HFN:=hqz9 hfn;have HDH:=hqz9 hdh;have HDD:=hqz9 hdd;have HARR:=hqz9 harr;have HFR:=hqz9 hfr;have q2:=hpg.c.k2;clear HH hpg hfn hdh hdd harr hfr hnc;by_cases hlt:k<NF
       ·have hltz:(k:Int)<(NF:Int):=om0;have hkl:k<hs.length:=by rw[←HNF.out];exact hlt
        have hkm:k<(hs.map fun p=>p.q.f).length:=by rw[List.length_map];exact hkl
        obtain⟨b,o,C,rfl,hbB,hC,hrx⟩:=HFR.at hkm;have⟨hd,hhd⟩:=xq (hs[k]);rw[List.getElem_map,←hhd]at hrx;have hmem:hd∈hs:=by rw[hhd];exact List.getElem_mem hkl
        have hnmg:=(HFW hd hmem).2;have hnp:=(HFW hd hmem).1;have⟨nm,hnm⟩:=xq hd.q.nm;have⟨np,hnpe⟩:=xq hd.q.np;rw[←hnm]at hnmg;have hpar:hd.q.f.params=nmP.take np:=by rw[hnpe];rfl
        have hpl:(nmP.take np).length=np:=by rw[List.length_take,hnpe];show min _ 6=_;omega
        rw[←hnpe]at hnp;have e0:=hC 0 om0;have e1:=hC 1 om0;have e2:=hC 2 om0;have e3:=hC 3 om0;rw[show C 0=S nm by rw[hnm];exact hrx.1]at e0;have hpx:=hrx.2.1;rw[hpar]at hpx;obtain⟨pa,pc,hpv, -⟩:=id hpx;obtain⟨la,lc,hlv, -⟩:=id hrx.2.2.1;obtain⟨ba,bc,hbv⟩:=hrx.2.2.2.slice;rw[hpl]at hpv;rw[hpv]at e1 hpx;rw[hlv]at e2;rw[hbv]at e3;generalize hd.q.f.locals.length=ln at e2;generalize hd.q.f.body.length=bn at e3;simp only[Nat.add_zero]at e0;have HPX:=hqz9 hpx;have HHE:=hqz9 hnmg;have HPL:=hqz9 hpl;clear hC hrx hhd hmem hnm hnpe hpar hpv hlv hbv hpx hnmg hkm hpl;go_upto_region 24 with(fail)
        have hsb9:W.heap.size+1<wo3.heap.size:=by have:=HPG.lt;have:=HPG.lc;have:=HPG.lp;omega
        have⟨w4,hw4⟩:=xq (wo3.alloc (.cells #[S nm, .slice pa np pc, .slice la ln lc, .slice ba bn bc] 51));have hs4:SG (W.heap.size+1) wo3 w4:=by rw[hw4];exact SG.start HPG.src ba0
        have⟨fb,hfb⟩:=xq wo3.heap.size;have hr4:Row w4 fb 51 [S nm, .slice pa np pc, .slice la ln lc, .slice ba bn bc]:=by rw[hw4,hfb];exact heap_new _ _
        rw[←hw4,←hfb];have HS4:=hqz9 hs4;have HR4:=hqz9 hr4;have hfs:W.heap.size+1<fb:=om0;have hfw:wo3.heap.size≤fb:=om0;clear hw4 hs4 hr4 e0 e1 e2 e3 q2 hfb;obtain⟨o5,ho5⟩:∃o:Obj,o= .cells #[.string ⟨#[120]⟩, .string ⟨#[121]⟩, .string ⟨#[122]⟩, .string ⟨#[105]⟩, .string ⟨#[107]⟩] 9:=⟨_,rfl⟩;have hr5:Row (w4.alloc o5) w4 9 (nmL.map S):=by rw[ho5];exact heap_new _ _
        have⟨lb,hlb⟩:=xq w4.heap.size;have hlbf:fb<lb:=by rw[hlb];exact HR4.lt
        have HS5:=hqz9 (HS4.post (alloc_grown w4 o5 none) om0 nx0);have HR5:=hqz9 (HR4.kept (alloc_grown w4 o5 none) sm0);rw[←hlb]at hr5;have HL5:=hqz9 hr5;rw[ho5]at HS5 HR5 HL5;have HLB:=hqz9 hlb;clear hr5 ho5 hlb;go_upto_region 25 with(go_at_call 12;refine(next25_any (W.heap.size+1) 6 _ HS5.2 om0 om0).mono ?_;rintro e w6⟨⟨r,rfl,hr0,hr6⟩,hs6⟩;obtain⟨nl,rfl⟩:=nat_of hr0;have HS6:=hqz9 (HS5.out.trans hs6);have HR6:=hqz9 (hs6.row HR5.out om0);have HL6:=hqz9 (hs6.row HL5.out om0);clear hs6 hr0;have f2:=HR6.frozen 2;have c2:=HR6.k2;have hnl5:(nl:Int)≤5:=om0;have hnl6: ¬(5:Int)<nl:=om0)
        rw[←HLB.out];have⟨w7,hw7⟩:=xq (w6.setCell ⟨fb,2,none⟩ (.slice (some ⟨lb,0,none⟩) nl 5));have hg7:w6.grownBy w7 (some fb):=by rw[hw7];exact setCell_grown _ _ _ _
        have hr7:Row w7 fb 51 [S nm, .slice pa np pc, .slice (some ⟨lb,0,none⟩) nl 5, .slice ba bn bc]:=by rw[hw7];exact HR6.set 2 _
        have HS7:=hqz9 (HS6.post hg7 om0 sx0);have HR7:=hqz9 hr7;have HL7:=hqz9 (HL6.kept hg7 so1);have HPG7:=hqz9 (HPG.draw HS7.out);rw[←hw7];have z0:=HPG7.c.k0;have z1:=HPG7.c.k1;have z2:=HPG7.c.k2;have z3:=HPG7.c.k3;have z4:=HPG7.c.k4;clear hw7 hg7 hr7 f2 c2 HS6 HR6 HL6 HS5 HR5 HL5 HS4 HR4 HLB;go_upto_region 26 with(fail)
        clear z0 z1 z2 z3 z4;have⟨w8,hw8⟩:=xq (w7.alloc (.cells #[.slice none 0 0, .slice aa NA ac, .slice (some ⟨b,o,none⟩) NF fc, .bool free, .bool false] 48));have⟨ib,hib⟩:=xq w7.heap.size;have hg8:w7.grownBy w8 none:=by rw[hw8];exact alloc_grown _ _ none
        have hr8:Row w8 ib 48 [.slice none 0 0, .slice aa NA ac, .slice (some ⟨b,o,none⟩) NF fc, .bool free, .bool false]:=by rw[hw8,hib];exact heap_new _ _
        have hibf:lb<ib:=by rw[hib];exact HL7.lt
        rw[←hw8,←hib];have HI8:=hqz9 hr8;have HS8:=hqz9 (HS7.post hg8 om0 nx0);have HR8:=kp0 HR7 hg8;have HL8:=kp0 HL7 hg8;clear hw8 hib hg8 hr8 HS7 HR7 HL7 HPG7;refine rX0 (fun X=>X.cell? ⟨fb,1,none⟩=some (.slice pa np pc)∧X.cell? ⟨fb,2,none⟩=some (.slice (some ⟨lb,0,none⟩) nl 5)) [(0,0),(0,1),(0,3),(0,4),(1,2),(1,5),(0,6),(2,7)] (fun wd hh=>⟨row_at HR8.out hh 1,row_at HR8.out hh 2⟩) fun wd hh hgd hS=> ?_;have hpx:RSlB (fun b=>nb≤b∧b<nc) 1 RStr wd (.slice pa np pc) (nmP.take np):=(HPX.grown HS8.1 sx0 i20).grown hgd nx0 i20;have HPD:=hqz9 hpx;have HSD:=hqz9 (HS8.post hgd om0 nx0);have HRD:=kp0 HR8 hgd;have HLD:=kp0 HL8 hgd;have HID:=kp0 HI8 hgd;have hibd:ib<wd.heap.size:=HID.lt;have HP6:=hqz9 (show(nmP.take np).length≤6 by rw[HPL.out];omega);have HL6:=hqz9 (show(nmL.take nl).length≤5 by rw[List.length_take];show min _ 5≤_;omega);clear hh hgd HS8 HR8 HL8 HI8 hpx;refine lkQ ?_;go_wp2_with (at_builtin;refine wpList_appL rfl _ _ rfl wd.heap.size (.slice none 0 0) [] rfl OwnS.nil (.slice pa np pc) (nmP.take np) rfl HPD.out (by have:=HP6.out;simp only[List.length_nil];omega) nl0 ?_;intro v1 w9 ho9 hg9;have HO9:=hqz9 ho9;have HG9:=hqz9 (show wd.grownBy w9 none from hg9);clear ho9 hg9)
        have HS9:=hqz9 (HSD.post HG9.out om0 nx0);have HR9:=hqz9 (HRD.kept HG9.out sm0);have HL9:=hqz9 (HLD.kept HG9.out sm0);have HI9:=hqz9 (HID.kept HG9.out sm0);refine QN_keep ⟨HR9.cell 1,HR9.cell 2⟩ fun hS=> ?_;refine wpOrd_turn ?_;go_wp2_with (at_builtin;refine wpList_appL rfl _ _ rfl wd.heap.size v1 ([]++nmP.take np) rfl HO9.out (.slice (some ⟨lb,0,none⟩) nl 5) (nmL.take nl) rfl (row_strs (B:=fun b=>b=lb) HL9.out rfl (show nl≤nmL.length from(by omega:nl≤5)) dc0) (by have:=HP6.out;have:=HL6.out;simp only[List.nil_append];omega) HG9.size ?_;intro v2 wA hoA hgA;obtain⟨vl,hvl⟩:∃vl:List Str,vl=([]++nmP.take np)++nmL.take nl:=⟨_,rfl⟩;rw[←hvl]at hoA;obtain⟨va,vc,hv2⟩:=hoA.slice;have⟨VN,hVN⟩:=xq vl.length;rw[←hVN]at hv2;subst hv2;have HVL:=hqz9 hvl;have HVN:=hqz9 hVN;clear hvl hVN;have HOA:=hqz9 hoA;have HGA:=hqz9 hgA;clear hoA hgA)
        have hown9:∀r,v1.ownBlock=some r→wd.heap.size≤r:=fun r e=>(ownsRow_base HO9.out r e).1;have HSA:=hqz9 (HS9.post HGA.out om0 (fun r e=>by have:=hown9 r e;have:=HSD.size;omega));have HRA:=hqz9 (HR9.kept HGA.out (fun e=>by have:=hown9 _ e.symm;have:=HRD.lt;omega));have HLA:=hqz9 (HL9.kept HGA.out (fun e=>by have:=hown9 _ e.symm;have:=HLD.lt;omega));have HIA:=hqz9 (HI9.kept HGA.out (fun e=>by have:=hown9 _ e.symm;omega));clear hown9;refine QN_keep ⟨HRA.cell 1,HRA.cell 2⟩ fun hS=> ?_;refine lkA ?_;have f0:=HIA.frozen 0;have d0:=HIA.cell 0;simp only[List.getElem?_cons_zero]at d0;clear hS;refine wpOrd_last ?_;go_wp2;refine QN_normal (wpOrd_nil ?_);have⟨wB,hwB⟩:=xq (wA.setCell ⟨ib,0,none⟩ (.slice va VN vc));have hgB:wA.grownBy wB (some ib):=by rw[hwB];exact setCell_grown _ _ _ _
        have hrB:Row wB ib 48 [.slice va VN vc, .slice aa NA ac, .slice (some ⟨b,o,none⟩) NF fc, .bool free, .bool false]:=by rw[hwB];exact HIA.set 0 _
        have hsB:=HSA.post hgB om0 sx0;have hvx:RSlB (·≠W.heap.size+1) 1 RStr wB (.slice va VN vc) vl:=by
         have h1:OwnS 1 9 sEncS wB wd (.slice va VN vc) vl:=ownsRow_kept' HOA.out hgB (by
          cases hv:(Value.slice va VN vc).ownBlock with
          |none=>exact .inl rfl
          |some q=>
           right;intro e;have:=(ownsRow_base HOA.out q hv).1;have:q=ib:=Option.some.inj e;omega)
         have h2:=h1.rslB (R:=RStr) (fun x=>x) sEncS_len (by rw[HVL.out];have:=HP6.out;have:=HL6.out;simp only[List.length_append,List.length_nil];omega) (fun x _=>rfl);have h3:RSlB (wd.heap.size≤·) 1 RStr wB (.slice va VN vc) vl:=by simpa using h2
         exact h3.weak (fun q hq=>by have:=HSD.size;omega) i20
        have hcl:Calls Tryz.prog 17 #[.agg #[.slice va VN vc, .slice aa NA ac, .slice (some ⟨b,o,none⟩) NF fc, .bool free, .bool false], .pointer (some ⟨W.heap.size+1,0,none⟩),I 4] wB (DrT (cW free) 4 false wB (W.heap.size+1)):=by
         refine stmts30F (cW free) 4 dc0 dc0 (W.heap.size+1) wB _ _ _ false ⟨⟨vl,hvx,fun _ x hx=> ?_⟩,⟨ars, ?_,fun _ x hx=>HSZ.out x hx⟩,⟨hs.map fun p=>p.q.f, ?_,fun _ x hx=> ?_⟩,fun _=>⟨fun _ h=>h,fun _ h=>h,fun _ _ h h'=>⟨h,h'⟩⟩⟩ hsB.2
         ·rw[HVL.out,List.nil_append]at hx;refine nm_raw x (List.mem_append_left _ ?_);rcases List.mem_append.1 hx with hx|hx
          ·exact List.mem_append_left _ (List.mem_of_mem_take hx)
          ·exact List.mem_append_right _ (List.mem_of_mem_take hx)
         ·exact((HARR.grown hsB.1 sx0 i20).rsl (oq0 HAL)).weak (fun q hq=>by have hq:pb<q:=hq;omega) i20
         ·exact(HFR.grown hsB.1 sx0 (fun _ _ h=>h.grown hsB.1 sx0)).weak (fun q hq=>by omega) (fun _ _ h=>h.weak (fun q hq=>by omega))
         ·obtain⟨p,hp,rfl⟩:=List.mem_map.1 hx;refine⟨(HFW p hp).2, ?_⟩;have h6:=(HFW p hp).1;show(nmP.take p.q.np).length≤6;rw[List.length_take];omega
        rw[←hwB];have HCL:=hqz9 hcl;have HIB:=hqz9 hrB;have HSB:=hqz9 hsB;have HRB:=hqz9 (HRA.kept hgB so1);have HLB:=hqz9 (HLA.kept hgB so1);have z0:=hrB.k0;have z1:=hrB.k1;have z2:=hrB.k2;have z3:=hrB.k3;have z4:=hrB.k4;clear hwB hgB hrB hsB hvx hcl f0 d0 HSA HRA HLA HIA HOA HGA HS9 HR9 HL9 HI9 HO9 HG9 HSD HRD HLD HID HPD;go_upto_region 28 with(go_at_call 17;refine HCL.mono ?_;rintro e wC⟨bl,ea,ec,rfl,hbl4,hbd,hbx,hsC⟩;have HSC:=hqz9 (HSB.out.trans hsC);have HRC:=hqz9 (hsC.row HRB.out om0);have HLC:=hqz9 (hsC.row HLB.out om0);have HBX:=hqz9 hbx;have HBD:=hqz9 hbd;have HB4:=hqz9 hbl4;have HBZ:=hqz9 (show wo3.heap.size≤wB.heap.size from HSB.size);have f3:=HRC.frozen 3;have d3:=HRC.k3;have⟨BN,hBN⟩:=xq bl.length;rw[←hBN];have HBN:=hqz9 hBN;clear hbl4 hbd hbx hsC hBN z0 z1 z2 z3 z4)
        have⟨wD,hwD⟩:=xq (wC.setCell ⟨fb,3,none⟩ (.slice ea BN ec));have hgD:wC.grownBy wD (some fb):=by rw[hwD];exact setCell_grown _ _ _ _
        have hrD:Row wD fb 51 [S nm, .slice pa np pc, .slice (some ⟨lb,0,none⟩) nl 5, .slice ea BN ec]:=by rw[hwD];exact HRC.set 3 _
        have HSD:=hqz9 (HSC.post hgD om0 sx0);have HLD:=hqz9 (HLC.kept hgD so1);have HXD:=hqz9 (SX.size (SX.grown HBX.out hgD (fun r e hb=>by cases e;have:=HRB.lt;omega)));have HPGD:=hqz9 (HPG.draw HSD.out);have HFND:=hqz9 (HFN.grown HSD.1 sx0);rw[←hwD];have y0:=hrD.k0;have y1:=hrD.k1;have y2:=hrD.k2;have y3:=hrD.k3;have p1:=HPGD.p.k1;obtain⟨y,hy⟩:∃y:FD,y=⟨⟨nm,np,nl,bl⟩,pa,pc,some ⟨lb,0,none⟩,5,ea,ec⟩:=⟨_,rfl⟩;obtain⟨o5,ho5⟩:∃o:Obj,o= .cells #[S nm, .slice pa np pc, .slice (some ⟨lb,0,none⟩) nl 5, .slice ea BN ec] 51:=⟨_,rfl⟩;have hg5:wD.grownBy (wD.alloc o5) none:=alloc_grown _ _ none;have HN5:=hqz9 (show Row (wD.alloc o5) wD 51 (fnEnc y) by rw[ho5,hy,HBN.out];exact heap_new _ _);have HO5:=hqz9 (show OwnS 4 51 fnEnc (wD.alloc o5) nc fv done from OwnS.tag HFND.2.1 hg5 nt0);have HP5:=hqz9 (HPGD.kept hg5 nx0);have hzD:=HSD.size;have hle5:nc≤(wD.alloc o5).heap.size:=by rw[World.size_alloc];omega
        have hdl:done.length≤1000000000:=by have:=HDH.out;omega
        have HPY:=hqz9 (show PartF (fun q=>nb≤q∧q<wD.heap.size∧fv.ownBlock≠some q) wD y by
         have hob:∀q,fv.ownBlock=some q→nc≤q∧q<wo3.heap.size:=fun q e=>ownsRow_base HFN.2.1 q e;rw[hy];refine⟨?_,row_strs HLD.out ⟨om0,HLD.lt,fun e=>by have:=hob _ e;omega⟩ (show nl≤nmL.length from(by omega:nl≤5)) dc0,SX.weak HXD.out fun q hq=>⟨by have:=hq.1;have:=HBZ.out;omega,hq.2,fun e=>by have:=hob _ e;have:=hq.1;have:=HBZ.out;omega⟩⟩;exact(HPX.grown HSD.1 sx0 i20).weak (fun q hq=>⟨om0,om0,fun e=>by have:=hob _ e;omega⟩) i20)
        have HYD:=hqz9 (show NmG y.q.nm∧y.q.np≤6∧y.q.nl≤5∧y.q.body.length≤4∧∀s∈y.q.body,DrS (cW free) 4 free s by rw[hy];exact⟨HHE.out,hnp,by show nl≤5;omega,HB4.out,HBD.out⟩);rw[ho5]at HN5 HO5 HP5 hle5;clear ho5 hg5 hy hwD hgD hrD f3 d3;go_wp2_with (at_builtin;(refine wpList_appS slFunc rfl _ _ rfl fnEnc_len fnEnc_one nc fv done rfl HO5.out wD.heap.size y rfl (fun j hj=>cell_of_block HN5.out j|>.trans sm0) hdl dc0 hle5 ?_;intro g' cap w6 ho6 hg6 hat6 hlt6;have HF6:=hqz9 (FnI.app HFN.out HSD.1 sx0 HPY.out ho6 hg6 rfl hat6);have hown6:∀r,fv.ownBlock=some r→nc≤r:=(fun r e=>(ownsRow_base HO5.out r e).1);have HP6:=hqz9 (HP5.kept hg6 (fun r e=>by have:=hown6 r e;omega));have HG6:=hqz9 (show∀r,fv.ownBlock=some r→nc≤r from hown6);have HGG:=hqz9 hg6;clear ho6 hg6 hat6 hlt6 y0 y1 y2 y3 p1 hown6;have f1:=HP6.p.frozen 1;have p1:=HP6.p.k1))
        have HR1:=hqz9 (show ArrO pb nb w6 (.slice aa NA ac) ars from((HARR.grown HSD.1 sx0 i20).grown (alloc_grown wD _ none) nx0 i20).grown HGG.out (fun r e hq=>by have:=HG6.out r e;have:=HPX.out;omega) i20);have HR2:=hqz9 (show RSlB (fun q=>nb≤q∧q<nc) 4 (RF (fun q=>nb≤q∧q<nc)) w6 (.slice (some ⟨b,o,none⟩) NF fc) (hs.map fun p=>p.q.f)from by
         have h1:=HFR.grown HSD.1 sx0 (fun _ _ h=>h.grown HSD.1 sx0);have hga:=alloc_grown wD (.cells #[S nm, .slice pa np pc, .slice (some ⟨lb,0,none⟩) nl 5, .slice ea BN ec] 51) none;have h2:=h1.grown hga nx0 (fun _ _ h=>h.grown hga nx0);exact h2.grown HGG.out (fun r e hq=>by have:=HG6 r e;omega) (fun _ _ h=>h.grown HGG.out (fun r e hq=>by have:=HG6.out r e;omega)))
        have hz6:nc≤w6.heap.size:=Nat.le_trans hle5 HGG.size;go_roundg (NF - (k+1))
        case measure=>omega
        case rel=>
         have hgp:=setCell_grown w6 pb 1 (.slice (some ⟨g',0,none⟩) (done.length+1) cap);refine⟨k+1,om0,by go_num,hqz9 ⟨done++ [y],_, ?_, ?_,HP6.setp 1 _,HF6.grown hgp sx0,HR1.grown hgp sx0 i20,HR2.grown hgp sx0 (fun _ _ h=>h.grown hgp sx0),Nat.le_trans hz6 hgp.size⟩⟩
         ·simp [HDH.out]
         ·intro p hp;rcases List.mem_append.1 hp with hp|hp
          ·exact HDD p hp
          ·obtain rfl:=List.mem_singleton.1 hp;exact HYD.out
       ·have hltz: ¬(k:Int)<(NF:Int):=om0;have hkn:k=NF:=om0;obtain⟨fva,fvc,rfl⟩:=HFN.2.1.slice;have hdl:done.length≤1000000000:=by have:=HDH.out;omega
        have hraw:RawW free ars (done.map FD.q):=⟨HSZ.out,HAL.out,fun e=>by
         have h0:=HDH.out;rw[List.map_eq_nil_iff.1 e]at h0;have:=List.length_pos_iff.2 HH0.out;have:=HNF.out;simp at h0;omega,by rw[List.length_map,HDH.out];omega,fun q hq=>by
         obtain⟨p,hp,rfl⟩:=List.mem_map.1 hq;exact HDD p hp⟩
        have hfx:=HFN.read hdl;have⟨DN,hDN⟩:=xq done.length;rw[←hDN]at hfx HPG HFN;have HFX:=hqz9 hfx;have HRAW:=hqz9 hraw;have p0:=HPG.p.k0;have p1:=HPG.p.k1;clear hdl hraw hfx hDN HDH HDD HFW HFR HNF;go_wp2_with (refine sr 27 (.tmp 4) (.tmp 119) W #[.slice none 0 0, .slice none 0 0] HPG.out.out ?_)
        have hg9:wo3.grownBy (wo3.setRow W #[.slice aa NA ac, .slice fva DN fvc]) (some W):=setRow_grown;have hlc9:=HPG.lc;have hlp9:=HPG.lp;refine bodyPost_ret (results_cell_row rfl _ _ W 27 _ (0,0) _ rfl (setRow_heap _ _ _ _ _ _ HPG.out.out) Tryz.underlying27 rfl kr0) rfl ?_;rw[HQ.out];exact⟨_,_,ars,done,pb,nb,nc,rfl,HRAW.out,om0,HARR.grown hg9 sx0 i20,HFN.grown hg9 sx0,HFN.1,hn7,HPG.below.grown hg9 HPG.below.size sx0⟩
 have HREST:=hqz9 hrest;clear hKR hrest;by_cases hL:400<L
 ·have hLz:(400:Int)<(L:Int):=om0;have hc400:400≤c:=om0;go_upto_region 3 with(fail)
  have c0:=HR2.k0;have f0:=HR2.frozen 0;go_wp2;have hg2:w1.grownBy (w1.setCell ⟨W.heap.size+1,0,none⟩ (.slice a 400 c)) (some (W.heap.size+1)):=setCell_grown _ _ _ _;refine HREST _ _ _ _ _ _ _ _ _ _ _ _ (HB1.grown hg2 HB1.size sx0) (HR1.kept hg2 sm0) ⟨.slice a 400 c,l.take 400,0,HR2.set 0 _, ?_,Nat.zero_le _⟩;exact(((HLT 400 om0 om0).grown (bg0 HB1) nx0 i20).grown hg2 sx0 i20).weak (fun b hb=>by omega) i20
 ·have hLz: ¬(400:Int)<(L:Int):=om0;go_wp2;refine HREST _ _ _ _ _ _ _ _ _ _ _ _ HB1.out HR1.out ⟨.slice a L c,l.take L,0,HR2.out, ?_,Nat.zero_le _⟩;exact((HLT L nl0 om0).grown (bg0 HB1) nx0 i20).weak (fun b hb=>by omega) i20
def CapF (v:Value):Prop:=∀a n c,v= .slice a n c→n≤c
theorem ownsRow_capF {w:World} {base:Nat} {e:TypeId} {k:Nat} {v:Value} {n:Nat} {xs:List Value} (h:w.ownsRow base e k v n xs):CapF v:=by
 intro a m c hv
 rcases h.2 with ⟨rfl,-⟩|⟨g,cap,cur,rfl,-,-,h4,-⟩
 ·injection hv with h1 h2 h3;omega
 ·injection hv with h1 h2 h3;omega
theorem prog14W_px (free:Bool) (W:World) (v:Value) (l:List Int) (hl:RInts W v l) (hc:∃a c,v= .slice a l.length c∧l.length≤c):
  Calls Tryz.prog 6 #[v, .bool free] W fun en w'=>∃(av fv:Value) (ars:List LA) (fs:List PQ),en= .returned (.agg #[av,fv])∧RawW free ars fs∧CapF fv∧PX (W.heap.size≤·) w' av fv (rawP ars fs)∧Below W W w':=by
 refine(prog14W_any free W v l hl hc).mono ?_;rintro en w'⟨av,fv,ars,done,pb,nb,nc,rfl,hraw,hpb,har,hfn,hnc,hpn,hb⟩;refine⟨av,fv,ars,done.map FD.q,rfl,hraw,ownsRow_capF hfn.2.1,⟨?_, ?_⟩,hb⟩
 ·exact(har.rsl (oh0 hraw.arrs)).weak (fun q hq=>(by have hq:pb<q:=hq;omega:W.heap.size≤q)) i20
 ·have h1:=(hfn.read (by have:=hraw.fns;rw[List.length_map]at this;omega)).weak (B':=(W.heap.size≤·)) (fun q hq=>(by omega:W.heap.size≤q)) (fun _ _ h=>h.weak (fun q hq=>(by omega:W.heap.size≤q)));show RSlB _ 4 _ _ _ ((done.map FD.q).map PQ.f);rw[List.map_map];exact h1
end Go.Proofs.YtngglbakkedaiaaGreatDoor
