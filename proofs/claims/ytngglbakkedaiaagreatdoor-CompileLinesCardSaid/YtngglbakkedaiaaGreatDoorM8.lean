import Derived.Test.YtngglbakkedaiaaGreatDoorM1
set_option linter.all false
namespace Go.Proofs.YtngglbakkedaiaaGreatDoor
section
open Go.RowKit Go.Shelf
attribute [local go_sem] Oper.semAt_some
noncomputable def bP (p:Prop):Bool:= @decide p (Classical.propDecidable p)
theorem bP_true {p:Prop} (h:p):bP p=true:=by unfold bP;simpa using h
theorem bP_false {p:Prop} (h: ¬p):bP p=false:=by unfold bP;simpa using h
theorem bP_iff {p:Prop}:bP p=true↔p:=by unfold bP;simp
def AscD:Nat→LE→Prop
 |0,_=>True
 |d+1,e=>Asc e.name∧∀x∈e.args,AscD d x
def AscE (e:LE):Prop:=∀d,AscD d e
theorem AscE.name {e:LE} (h:AscE e):Asc e.name:=(h 1).1
theorem AscE.args {e:LE} (h:AscE e):∀x∈e.args,AscE x:=fun x hx d=>(h (d+1)).2 x hx
def deepP:Nat→LE→Prop
 |0,_=>False
 |d+1,e=>∀x∈e.args,deepP d x
def wellP (e:LE):Prop:=∃d,okE d e
theorem okE_mono:∀{d d':Nat} (_:d≤d') {e:LE},okE d e→okE d' e
 |0,_,_,_,h=>h.elim
 |d+1,0,hl,_,_=>absurd hl om0
 |d+1,d'+1,hl,_,h=>⟨h.1,fun x hx=>okE_mono om0 (h.2 x hx)⟩
theorem exists_max {α:Type} {P:Nat→α→Prop} (hm:∀{a b:Nat},a≤b→∀{x},P a x→P b x):∀(l:List α),(∀x∈l,∃d,P d x)→∃d,∀x∈l,P d x
 | [],_=>⟨0,nx0⟩
 |a::l,h=>by
  obtain⟨d1,h1⟩:=h a List.mem_cons_self
  obtain⟨d2,h2⟩:=exists_max hm l fun x hx=>h x (List.mem_cons_of_mem _ hx)
  refine⟨max d1 d2,fun x hx=> ?_⟩
  rcases List.mem_cons.1 hx with rfl|hx
  ·exact hm (Nat.le_max_left _ _) h1
  ·exact hm (Nat.le_max_right _ _) (h2 x hx)
theorem wellP_iff (e:LE):wellP e↔onlyE e∧∀x∈e.args,wellP x:=by
 constructor
 ·rintro⟨d,h⟩;cases d with
  |zero=>exact h.elim
  |succ d=>exact⟨h.1,fun x hx=>⟨d,h.2 x hx⟩⟩
 ·rintro⟨h1,h2⟩;obtain⟨d,hd⟩:=exists_max (P:=okE) (fun{a b} hab {x} h=>okE_mono hab h) e.args h2;exact⟨d+1,h1,hd⟩
theorem okE_iff:∀(d:Nat) (e:LE),okE d e↔deepP d e∧wellP e
 |0,e=>⟨fun h=>h.elim,fun h=>h.1.elim⟩
 |d+1,e=>by
  constructor
  ·intro h
   exact⟨fun x hx=>((okE_iff d x).1 (h.2 x hx)).1,d+1,h⟩
  ·rintro⟨h1,h2⟩
   obtain⟨h3,h4⟩:=(wellP_iff e).1 h2
   exact⟨h3,fun x hx=>(okE_iff d x).2 ⟨h1 x hx,h4 x hx⟩⟩
theorem any_iff {α:Type} {l:List α} {p:α→Prop}:(l.any fun x=> !bP (p x))=false↔∀x∈l,p x:=by
 rw[List.any_eq_false];constructor
 ·intro h x hx;have:=h x hx;simp only[Bool.not_eq_true',Bool.not_eq_false]at this;exact bP_iff.1 this
 ·intro h x hx;rw[bP_true (h x hx)];simp
def WellOk (d:Nat):Prop:=∀(x:LE) (B:Nat→Prop) (W:World) (C:Nat→Value),AscE x→RE d B W C x→CR 167 #[eV x (C 4)] W (.bool (bP (wellP x)))
set_option maxRecDepth 100000 in
set_option maxHeartbeats 2000000 in
theorem well1_any {d:Nat} (ih:WellOk d) (x:LE) (B:Nat→Prop) (w:World) (C:Nat→Value) (ha:AscE x) (hx:RE d B w C x):
  CR 241 #[eV x (C 4)] w (.bool !(bP (wellP x))):=by
 have HI:=hqz9 (ih x B _ C ha (hx.grown d (alloc_grown w (.cells (eB x (C 4)) 57) none) nx0));have HB1:=hqz9 (below_a1 w (.cells (eB x (C 4)) 57));have hz:(w.alloc (.cells (eB x (C 4)) 57)).heap.size=w.heap.size+1:=sm0;have⟨b,hb⟩:=xq (bP (wellP x));rw[←hb]at HI⊢;clear hx ih ha hb;go_enter Tryz.func241,Tryz.ntmps241;go_wp2_with (go_at_call 167;refine mh0 HI fun w1 hb1=> ?_;have HB2:=hqz9 (HB1.out.trans (hb1.mono om0)))
 go_ret;exact⟨rfl,HB2⟩
set_option maxRecDepth 100000 in
set_option maxHeartbeats 4000000 in
theorem well_step {d:Nat} (ih:WellOk d) (e:LE) (ha:AscE e) (av:Value) (w:World) (B:Nat→Prop) (hx:RSlB B 5 (RE d B) w av e.args):CR 167 #[eV e av] w (.bool (bP (wellP e))):=by
 have⟨Q,hQ⟩:=xq (bP (wellP e));have HQ:=hqz9 hQ;rw[←hQ];clear hQ;obtain⟨aa,ac,rfl, -⟩:=id hx;have HO:=hqz9 (fun W=>only_any e ha.name aa ac W);have hiff:=onlyE_iff e ha.name;have⟨R,hR⟩:=xq (onlyR e);rw[←hR]at HO hiff;clear hR;obtain⟨ro,rn,rnm,ra,rok⟩:=R;simp only[]at HO hiff;have⟨ek,ek'⟩:=xq e.kind;have⟨eo,eo'⟩:=xq e.op;have⟨en,en'⟩:=xq e.n;have⟨enm,enm'⟩:=xq e.name;have⟨el,el'⟩:=xq e.args.length;have hsay:∀W,Below w w W→SaysB agg5 (RE d B) W 241 #[] (fun x=> !(bP (wellP x))) e.args:=fun W _=>⟨enters_of Tryz.func241 kr0 rfl,fun x hx W' C hb hr=>by
  obtain⟨he, -⟩:=hr.ev;rw[he];exact well1_any ih x B W' C (ha.args x hx) hr⟩
 have HSY:=hqz9 hsay;have HX:=hqz9 hx;have hall:(e.args.any fun x=> !(bP (wellP x)))=false↔∀x∈e.args,wellP x:=any_iff;obtain⟨tb,htb⟩:∃t,t=(e.args.any fun x=> !(bP (wellP x))):=⟨_,rfl⟩;have HCT0:=hqz9 (fun W (hb:Below w w W)=>containsE_any W (.slice aa e.args.length ac) e.args (HX.below hb (fun C x h=>RE.below hb h)) (fun W W' C x hb h=>RE.below hb h) 241 #[] _ (HSY W hb));rw[←htb]at HCT0 hall;have hfin:Q=(rok&&decide (el=ra)&&decide (ro=eo)&&decide (rn=en)&&decide (rnm=enm)&& !tb):=by
  rw[HQ.out,Bool.eq_iff_iff,bP_iff,wellP_iff,hiff,←hall,el',eo',en',enm'];simp [and_assoc]
 have HFIN:=hqz9 hfin;show Calls Tryz.prog 167 #[.agg #[I e.kind,I e.op,I e.n,S e.name, .slice aa e.args.length ac]] w _;simp only[eV]at HO;rw[←ek',←eo',←en',←enm',←el']at HO⊢;rw[←el']at HCT0 hx;have HB0:=hqz9 (below_a1 w (.cells #[I ek,I eo,I en,S enm, .slice aa el ac] 57));clear hiff hall hsay HSY HX HQ hx ha ih ek' eo' en' enm' el' htb hfin;go_enter Tryz.func167,Tryz.ntmps167;go_upto_region 2 with(first|(go_at_call 240;refine mh0 (HO _) fun w1 hb1=> ?_;have HR1:=hqz9 (show Row w1 w 57 [I ek,I eo,I en,S enm, .slice aa el ac]from(hb1.block w sm0).trans hn0);have HB1:=hqz9 (HB0.out.trans (hb1.mono sm0)))|(refine sr 57 (.tmp 3) (.tmp 9) w1 eZ hn0 ?_))
 have hzb:=HB1.size;have hlb:=HR1.lt;obtain⟨w3,hw3⟩:∃w3,w3=(w1.alloc (.cells eZ 57)).setRow w1 #[I ek,I ro,I rn,S rnm, .slice none 0 0]:=⟨_,rfl⟩;have hR3:Row w3 w 57 [I ek,I eo,I en,S enm, .slice aa el ac]:=by rw[hw3];exact(setRow_other _ _ _ _ om0).trans (ho0 HR1.out)
 have hX3:Row w3 w1 57 [I ek,I ro,I rn,S rnm, .slice none 0 0]:=by rw[hw3];exact setRow_heap _ _ _ _ _ _ hn0
 have HB3:=hqz9 (show Below w w w3 by rw[hw3];exact(HB1.alloc hzb _).grown setRow_grown so0 sx0);rw[←hw3];have b1:=hR3.k1;have b2:=hR3.k2;have b3:=hR3.k3;have b4:=hR3.k4;have x1:=hX3.k1;have x2:=hX3.k2;have x3:=hX3.k3;have HCT:=hqz9 (HCT0 w3 HB3);clear hw3 hR3 hX3 HCT0;have hfin:=HFIN.out;cases rok
 ·obtain rfl:Q=false:=by simpa using hfin
  clear hfin;go_wp2;go_ret;exact⟨rfl,HB3⟩
 by_cases h1:el=ra
 case neg=>
  obtain rfl:Q=false:=by simpa [h1]using hfin
  have h1':((el:Int)==(ra:Int))=false:=bo0;clear hfin h1;go_wp2;go_ret;exact⟨rfl,HB3⟩
 subst h1;by_cases h2:ro=eo
 case neg=>
  obtain rfl:Q=false:=by simpa [h2]using hfin
  have h1':(ro==eo)=false:=bn0 h2;clear hfin h2;go_wp2;go_ret;exact⟨rfl,HB3⟩
 subst h2;by_cases h3:rn=en
 case neg=>
  obtain rfl:Q=false:=by simpa [h3]using hfin
  have h1':(rn==en)=false:=bn0 h3;clear hfin h3;go_wp2;go_ret;exact⟨rfl,HB3⟩
 subst h3;by_cases h4:rnm=enm
 case neg=>
  obtain rfl:Q=false:=by simpa [h4]using hfin
  have h1':(rnm==enm)=false:=bn0 h4;clear hfin h4;go_wp2;go_ret;exact⟨rfl,HB3⟩
 subst h4;obtain rfl:Q= !tb:=by simpa using hfin
 clear hfin;go_wp2_with (go_at_call 102;refine mh0 HCT fun w4 hb4=> ?_;have HB4:=bt0 HB3 hb4)
 go_ret;exact⟨rfl,HB4⟩
theorem well_ok:∀d,WellOk d
 |0=>fun x B W C ha hr=>hr.elim
 |d+1=>fun x B W C ha hr=>well_step (well_ok d) x ha (C 4) W B hr.2.2.2.2
theorem well_any (e:LE) (ha:AscE e) (av:Value) (w:World) (B:Nat→Prop) (hx:EX B w av e):CR 167 #[eV e av] w (.bool (bP (wellP e))):=by
 obtain⟨d,hx⟩:=hx;exact well_step (well_ok d) e ha av w B hx
end
section
open Go.RowKit Go.Shelf
attribute [local go_sem] Oper.semAt_some
set_option maxRecDepth 100000 in
set_option maxHeartbeats 2000000 in
theorem deep1_any (e:LE) (av:Value) (b:Bool) (most:Int) (hm:1≤most∧most≤1000) (p:Nat) (w:World) (B:Nat→Prop) (hx:EX B w av e) (hr:Row w p 3 [I most]) (ih:∀W,EX B W av e→CR 166 #[eV e av,I (most - 1)] W (.bool b)):
  CR 239 #[eV e av, .pointer (some (p,0))] w (.bool !b):=by
 have HI:=hqz9 (ih _ (hx.alloc (o:= .cells (eB e av) 57)));have HB1:=hqz9 (below_a1 w (.cells (eB e av) 57));have hr1:=hr.ext (below_a1 w (.cells (eB e av) 57));have c0:=hr1.cell 0;simp only[List.getElem?_cons_zero]at c0;obtain⟨hm1,hm2⟩:=hm;clear hx ih hr hr1;go_enter Tryz.func239,Tryz.ntmps239;go_wp2_with (go_at_call 166;refine mh0 HI fun w1 hb1=> ?_;have HB2:=hqz9 (HB1.out.trans (hb1.mono sm0)))
 go_ret;exact⟨rfl,HB2⟩
set_option maxRecDepth 100000 in
set_option maxHeartbeats 2000000 in
theorem deep_any:∀(m:Nat) (_:m≤1000) (e:LE) (av:Value) (w:World) (B:Nat→Prop) (_:EX B w av e),CR 166 #[eV e av,I (m:Int)] w (.bool (bP (deepP m e)))
 |0,_,e,av,w,B,hx=>by
  rw[bP_false (p:=deepP 0 e) (fun h=>h)]
  have hmf:∀(fn:Fn) (first cap:Array Value) (w:World),(Instr.makeFunc fn first cap).run Tryz.prog w= .ok (.func fn first cap) w:=fun _ _ _ _=>rfl
  obtain⟨aa,ac,rfl⟩:=hx.slice
  have HB1:=hqz9 (show Below w w ((w.alloc (.cells (eB e (.slice aa e.args.length ac)) 57)).alloc (.cells #[I 0] 3))from(below_a1 w _).alloc sm0 _)
  clear hx
  show Calls Tryz.prog 166 #[.agg #[I e.kind,I e.op,I e.n,S e.name, .slice aa e.args.length ac],I 0] w _
  go_enter Tryz.func166,Tryz.ntmps166
  go_wp2
  go_ret
  exact⟨rfl,HB1⟩
 |m+1,hm,e,av,w,B,hx=>by
  obtain⟨aa,ac,rfl⟩:=hx.slice
  have ih:=deep_any m om0
  have hmf:∀(fn:Fn) (first cap:Array Value) (w:World),(Instr.makeFunc fn first cap).run Tryz.prog w= .ok (.func fn first cap) w:=fun _ _ _ _=>rfl
  obtain⟨most,hmo⟩:∃most:Int,most=((m+1:Nat):Int):=⟨_,rfl⟩
  rw[←hmo]
  have hm0:most - 1=(m:Int):=om0
  obtain⟨w1,hw1⟩:∃w1,w1=(w.alloc (.cells (eB e (.slice aa e.args.length ac)) 57)).alloc (.cells #[I most] 3):=⟨_,rfl⟩
  have hb1:Below w w w1:=by rw[hw1];exact(below_a1 w _).alloc sm0 _
  have hR:Row w1 w 57 (eRow e (.slice aa e.args.length ac)):=by rw[hw1];exact heap_old _ _ hn0
  have hM:Row w1 (w,1) 3 [I most]:=by rw[hw1];exact heap_at sm0
  have hwe:(w.alloc (.cells #[I e.kind,I e.op,I e.n,S e.name, .slice aa e.args.length ac] 57)).alloc (.cells #[I most] 3)=w1:=hw1.symm
  have b4:=hR.cell 4
  have m0:=hM.cell 0
  simp only[eRow,List.getElem?_cons_succ,List.getElem?_cons_zero]at b4 m0
  obtain⟨d',hd'⟩:=hx.grown (below_grown hb1 none) nx0
  have hRp:RSlB B 5 (fun W C x=>RE d' B W C x∧Row W (w,1) 3 [I most]) w1 (.slice aa e.args.length ac) e.args:=hd'.weak (fun _ h=>h) (fun C x h=>⟨h,hM⟩)
  have hsay:SaysB agg5 (fun W C x=>RE d' B W C x∧Row W (w,1) 3 [I most]) w1 239 #[.pointer (some (w,1,0))] (fun x=> !(bP (deepP m x))) e.args:=⟨enters_of Tryz.func239 kr0 rfl,fun x hx W' C hb hr=>by
   obtain⟨he,hex⟩:=hr.1.ev
   rw[he]
   exact deep1_any x (C 4) _ most om0 _ W' B hex hr.2 (fun W hh=>by rw[hm0];exact ih x (C 4) W B hh)⟩
  have hct:=containsE_any w1 _ e.args hRp (fun W W' C x hb h=>⟨h.1.below hb,h.2.ext hb⟩) 239 _ _ hsay
  have hall:(e.args.any fun x=> !(bP (deepP m x)))=false↔∀x∈e.args,deepP m x:=any_iff
  obtain⟨tb,htb⟩:∃t,t=(e.args.any fun x=> !(bP (deepP m x))):=⟨_,rfl⟩
  rw[←htb]at hct hall
  have hfin:bP (deepP (m+1) e)= !tb:=by
   rw[Bool.eq_iff_iff,bP_iff];simp only[Bool.not_eq_true'];exact hall.symm
  rw[hfin];have HCT:=hqz9 hct;have HB1:=hqz9 hb1;have hm1:0<most:=om0;clear hx ih hsay hRp hd' hM hR hb1 hw1 hm hmo hm0 hct hall htb hfin;go_enter Tryz.func166,Tryz.ntmps166;go_wp2_with (go_at_call 102;refine mh0 HCT fun w4 hb4=> ?_;have HB4:=bt0 HB1 hb4)
  go_ret;exact⟨rfl,HB4⟩
set_option maxRecDepth 100000 in
set_option maxHeartbeats 2000000 in
theorem rightExpr_any (e:LE) (ha:AscE e) (av:Value) (w:World) (B:Nat→Prop) (hx:EX B w av e):CR 104 #[eV e av] w (.bool (bP (okE 40 e))):=by
 have hx1:=hx.alloc (o:= .cells (eB e av) 57);have HR:=hqz9 (show Row (w.alloc (.cells (eB e av) 57)) w 57 (eRow e av)from heap_new _ _);have HB1:=hqz9 (below_a1 w (.cells (eB e av) 57));have HX1:=hqz9 hx1;have hd:=deep_any 40 om0 e av _ B hx1;have hw:=fun W hh=>well_any e ha av W B hh;have⟨p,hp⟩:=xq (bP (deepP 40 e));have⟨q,hq⟩:=xq (bP (wellP e));have hfin:bP (okE 40 e)=(p&&q):=by
  rw[Bool.eq_iff_iff,bP_iff,okE_iff,hp,hq,Bool.and_eq_true,bP_iff,bP_iff]
 rw[hfin];rw[←hp]at hd;rw[←hq]at hw;have HD:=hqz9 hd;have HW:=hqz9 hw;clear hx hx1 ha hd hw hp hq hfin;cases p
 ·go_enter Tryz.func104,Tryz.ntmps104;go_wp2_with (go_at_call 166;refine mh0 HD fun w1 hb1=> ?_;have HB2:=hqz9 (HB1.out.trans (hb1.mono sm0)))
  go_ret;exact⟨rfl,HB2⟩
 ·go_enter Tryz.func104,Tryz.ntmps104;go_wp2_with (first|(go_at_call 166;refine mh0 HD fun w1 hb1=> ?_;have HB2:=hqz9 (HB1.out.trans (hb1.mono sm0));have HX2:=hqz9 (HX1.below hb1);have hr2:=HR.ext hb1;have c0:=hr2.cell 0;have c1:=hr2.cell 1;have c2:=hr2.cell 2;have c3:=hr2.cell 3;have c4:=hr2.cell 4;simp only[eRow,List.getElem?_cons_succ,List.getElem?_cons_zero]at c0 c1 c2 c3 c4;clear hr2)|(go_at_call 167;refine mh0 (HW _ HX2) fun w2 hb2=> ?_;have HB3:=bt0 HB2 hb2))
  go_ret;exact⟨rfl,HB3⟩
set_option maxRecDepth 100000 in
set_option maxHeartbeats 2000000 in
theorem stmt1_any (e:LE) (ha:AscE e) (av:Value) (w:World) (B:Nat→Prop) (hx:EX B w av e):
  CR 103 #[eV e av] w (.bool !(bP (okE 40 e))):=by
 have HI:=hqz9 (rightExpr_any e ha av _ B (hx.alloc (o:= .cells (eB e av) 57)));have HB1:=hqz9 (below_a1 w (.cells (eB e av) 57));have⟨b,hb⟩:=xq (bP (okE 40 e));rw[←hb]at HI⊢;clear hx ha hb;go_enter Tryz.func103,Tryz.ntmps103;go_wp2_with (go_at_call 104;refine mh0 HI fun w1 hb1=> ?_;have HB2:=hqz9 (HB1.out.trans (hb1.mono sm0)))
 go_ret;exact⟨rfl,HB2⟩
set_option maxRecDepth 100000 in
set_option maxHeartbeats 2000000 in
theorem named1_any (x:Str) (ha:Asc x) (w:World):
  CR 58 #[S x] w (.bool !(isName x)):=by
 have HI:=hqz9 (name_any x ha w);have⟨b,hb⟩:=xq (isName x);rw[←hb]at HI⊢;clear ha hb;go_enter Tryz.func58,Tryz.ntmps58;go_wp2_with (go_at_call 59;refine mh0 HI fun w1 HB2=> ?_)
 go_ret;exact⟨rfl,HB2⟩
set_option maxRecDepth 100000 in
set_option maxHeartbeats 2000000 in
theorem named_any (l:List Str) (h:∀x∈l,Asc x) (v:Value) (w:World) (B:Nat→Prop) (hx:RSlB B 1 RStr w v l):
  CR 36 #[v] w (.bool (l.all isName)):=by
 have hsay:SaysB agg1 RStr w 58 #[] (fun x=> !(isName x)) l:=⟨enters_of Tryz.func58 kr0 rfl,fun x hx W' C hb hr=>by
  have:agg1 C=S x:=hr;rw[this];exact named1_any x (h x hx) W'⟩
 have hct:=containsN_any w v l hx (fun W W' C x hb h=>h) 58 #[] _ hsay;have hall:l.all isName= !(l.any fun x=> !(isName x)):=by rw[List.all_eq_not_any_not]
 obtain⟨tb,htb⟩:∃t,t=(l.any fun x=> !(isName x)):=⟨_,rfl⟩;rw[hall,←htb];rw[←htb]at hct;have HCT:=hqz9 hct;obtain⟨a,c,rfl, -⟩:=hx;clear hsay h hct hall htb;go_enter Tryz.func36,Tryz.ntmps36;go_wp2_with (go_at_call 57;refine mh0 HCT fun w1 HB2=> ?_)
 go_ret;exact⟨rfl,HB2⟩
end
section
open Go.RowKit Go.Shelf
attribute [local go_sem] Oper.semAt_some
set_option maxRecDepth 100000 in
set_option maxHeartbeats 2000000 in
theorem formOf_none (k:Int) (h:k<1∨10<k) (w:World):CR 101 #[I k] w (.tuple #[.agg #[.bool false,I 0, .bool false, .bool false], .bool false]):=by
 have k1:(k==1)=false:=bo0;have k2:(k==2)=false:=bo0;have k3:(k==3)=false:=bo0;have k4:(k==4)=false:=bo0;have k5:(k==5)=false:=bo0;have k6:(k==6)=false:=bo0;have k7:(k==7)=false:=bo0;have k8:(k==8)=false:=bo0;have k9:(k==9)=false:=bo0;have k10:(k==10)=false:=bo0;clear h;go_enter Tryz.func101,Tryz.ntmps101;go_wp2_with (refine sr 170 (.tmp 2) (.tmp 27) w frZ hn0 ?_)
 refine bodyPost_ret (results_ct rfl _ _ w 170 _ (0,0) _ rfl (setRow_heap _ _ _ _ _ _ hn0) Tryz.underlying170 rfl kr0) rfl ?_;exact⟨rfl,(below_a1 w _).grown setRow_grown sm0 sz0⟩
def StsB (l:List LS) (most:Int) (v:Value) (B:Nat→Prop) (b:Bool):Prop:=∀W,SX B W v l→CR 37 #[v,I most] W (.bool b)
noncomputable def allE (l:List LE):Bool:= !(l.any fun x=> !(bP (okE 40 x)))
theorem allE_iff (l:List LE):allE l=true↔∀x∈l,okE 40 x:=by
 unfold allE;rw[Bool.not_eq_true',any_iff]
set_option maxRecDepth 100000 in
set_option maxHeartbeats 8000000 in
theorem stmt_c0 (s:LS) (hk:s.kind<1∨10<s.kind) (most:Int) (av tv ev:Value) (w:World):
  CR 62 #[sV s av tv ev,I most] w (.bool false):=by
 have HFO:=hqz9 (fun W=>formOf_none s.kind hk W);have⟨sk,hsk⟩:=xq s.kind;have⟨sn,hsn⟩:=xq s.name;show Calls Tryz.prog 62 #[.agg #[I s.kind,S s.name,av,tv,ev],I most] w _;rw[←hsk]at HFO⊢;rw[←hsn];have HB1:=hqz9 (below_a1 w (.cells #[I sk,S sn,av,tv,ev] 55));have hR:=(show Row (w.alloc (.cells #[I sk,S sn,av,tv,ev] 55)) w 55 [I sk,S sn,av,tv,ev]from heap_new _ _);have b0:=hR.k0;clear hk hsk hsn hR;go_enter Tryz.func62,Tryz.ntmps62;go_upto_region 2 with(first|(go_at_call 101;refine mh0 (HFO _) fun w2 hb2=> ?_;have HB2:=bt0 HB1 hb2)|(refine sr 170 (.tmp 5) (.tmp 11) w2 frZ hn0 ?_))
 have HB3:=hqz9 ((HB2.alloc HB2.size (.cells frZ 170)).grown (setRow_grown (g:=w2.heap.size) (cs:= #[.bool false,I 0, .bool false, .bool false])) (by simp;have:=HB2.size;omega) (fun r e=>by cases e;exact HB2.size));clear b0;go_wp2;go_ret;exact⟨rfl,HB3⟩
end
section
open Go.RowKit Go.Shelf
attribute [local go_sem] Oper.semAt_some
set_option maxRecDepth 100000 in
set_option maxHeartbeats 16000000 in
theorem stmt_c3 (s:LS) (hk:s.kind=3) (most:Int) (hm:0≤most∧most≤1000) (av tv ev:Value) (w:World) (B:Nat→Prop) (ha:AX B w av s.args) (ht:SX B w tv s.thn) (he:SX B w ev s.els)
  (hn:Asc s.name) (haE:∀x∈s.args,AscE x) (bt be:Bool) (it:1≤most→StsB s.thn (most - 1) tv B bt) (ie:1≤most→StsB s.els (most - 1) ev B be):
  CR 62 #[sV s av tv ev,I most] w (.bool (decide (most≠0)&&decide (s.args.length=(formL s.kind).args)&& !(isName s.name)&&decide (s.name= [])&&allE s.args&&bt&&be)):=by
 have HFO:Hid (∀W:World,CR 101 #[I s.kind] W (.tuple #[.agg #[.bool false,I (formL s.kind).args, .bool true, .bool true], .bool true])):=hqz9 (fun W=>by
  have h:=formOf_yes s.kind om0 W;have h1:(formL s.kind).named=false:=by unfold formL;(repeat' split)<;>first|rfl|(exfalso;omega)
  have h2:(formL s.kind).thn=true:=by unfold formL;(repeat' split)<;>first|rfl|(exfalso;omega)
  have h3:(formL s.kind).more=true:=by unfold formL;(repeat' split)<;>first|rfl|(exfalso;omega)
  rw[h1,h2,h3]at h;exact h)
 obtain⟨fa,hfa⟩:∃n,n=(formL s.kind).args:=⟨_,rfl⟩;have⟨an,han⟩:=xq s.args.length;have⟨tn,htn⟩:=xq s.thn.length;have⟨en,hen⟩:=xq s.els.length;obtain⟨aa,ac,hav⟩:=ha.slice;rw[show(LE.mk 0 0 0 [] s.args).args.length=an from han.symm]at hav;obtain⟨ta,tc,htv⟩:=ht.slice;rw[←htn]at htv;obtain⟨ea,ec,hev⟩:=he.slice;rw[←hen]at hev;subst hav;subst htv;subst hev;have⟨sn,hsn⟩:=xq s.name;have⟨nb,hnb⟩:=xq (isName s.name);have⟨sk,hsk⟩:=xq s.kind;have⟨al,hal⟩:=xq (allE s.args);have HNM:=hqz9 (fun W=>name_any s.name hn W);have hsay:∀W d',SaysB agg5 (RE d' B) W 103 #[] (fun x=> !(bP (okE 40 x))) s.args:=fun W d'=>⟨enters_of Tryz.func103 kr0 rfl,fun x hx W' C hb hr=>by
  obtain⟨he,hex⟩:=hr.ev;rw[he];exact stmt1_any x (haE x hx) (C 4) W' B hex⟩
 have HAX:=hqz9 ha;have HCE:Hid (∀W,Below w w W→CR 102 #[.slice aa an ac, .func (.func 103) #[] #[]] W (.bool !al)):=hqz9 (fun W hb=>by
  obtain⟨d',hd'⟩:=HAX.grown (below_grown hb none) nx0;have h:=containsE_any W _ s.args hd' (fun W W' C x hb h=>h.below hb) 103 #[] _ (hsay W d');have hb:(!al)=(s.args.any fun x=> !(bP (okE 40 x))):=by rw[hal];unfold allE;rw[Bool.not_not]
  rw[hb];exact h)
 have HTX:=hqz9 ht;have HEX:=hqz9 he;have HIT:=hqz9 it;have HIE:=hqz9 ie;obtain⟨Q,hQ⟩:∃Q,Q=(decide (most≠0)&&decide (an=fa)&& !nb&&decide (sn= [])&&al&&bt&&be):=⟨_,rfl⟩;rw[←han,←hfa,←hnb,←hsn,←hal];rw[←hQ];have hval:sV s (.slice aa an ac) (.slice ta tn tc) (.slice ea en ec)= .agg #[I sk,S sn, .slice aa an ac, .slice ta tn tc, .slice ea en ec]:=by rw[sV,hsk,hsn]
 rw[hval];clear hval;rw[←hfa,←hsk]at HFO;rw[←hsn]at HNM;rw[←hnb.trans (congrArg isName hsn).symm]at HNM;have HQ:=hqz9 hQ;obtain⟨hm0,hm1⟩:=hm;have⟨w1,hw1⟩:=xq (w.alloc (.cells #[I sk,S sn, .slice aa an ac, .slice ta tn tc, .slice ea en ec] 55));have HB1:=hqz9 (aB0 hw1);have hR1:=aN0 hw1;have HR1:=hqz9 hR1;have b0:=hR1.k0;have hwe:w.alloc (.cells #[I sk,S sn, .slice aa an ac, .slice ta tn tc, .slice ea en ec] 55)=w1:=hw1.symm;have HSK:=hqz9 (hsk▸hk:sk=3);have HFA:=hqz9 (True.intro);clear ha ht he it ie hn haE hsay hfa han htn hen hsn hnb hsk hal hQ hw1 hR1 hk;go_enter Tryz.func62,Tryz.ntmps62;go_upto_region 2 with(first|(go_at_call 101;refine mh0 (HFO _) fun w2 hb2=> ?_;have HR2:=xt0 HR1 hb2;have HB2:=bt0 HB1 hb2)|(refine sr 170 (.tmp 5) (.tmp 11) w2 frZ hn0 ?_))
 have hzb:=HB2.size;have hlb:=HR2.lt;obtain⟨w3,hw3⟩:∃w3,w3=(w2.alloc (.cells frZ 170)).setRow w2 #[.bool false,I fa, .bool true, .bool true]:=⟨_,rfl⟩;have hR3:Row w3 w 55 [I sk,S sn, .slice aa an ac, .slice ta tn tc, .slice ea en ec]:=by rw[hw3];exact(setRow_other _ _ _ _ om0).trans (ho0 HR2.out)
 have hX3:Row w3 w2 170 [.bool false,I fa, .bool true, .bool true]:=by rw[hw3];exact setRow_heap _ _ _ _ _ _ hn0
 have HB3:=hqz9 (show Below w w w3 by rw[hw3];exact(HB2.alloc hzb _).grown setRow_grown so0 sx0);rw[←hw3];have HR3:=hqz9 hR3;have HX3:=hqz9 hX3;have c0:=hR3.k0;have c1:=hR3.k1;have c2:=hR3.k2;have c3:=hR3.k3;have c4:=hR3.k4;have x0:=hX3.k0;have x1:=hX3.k1;have x2:=hX3.k2;have x3:=hX3.k3;clear hw3 hR3 hX3 b0;by_cases h0:most=0
 case pos=>
  have hq:=HQ.out;subst h0;obtain rfl:Q=false:=by rw[hq];simp
  clear hq;go_wp2;go_ret;exact⟨rfl,HB3⟩
 have hmz:(most==0)=false:=bn0 h0;by_cases h1:an=fa
 case neg=>
  have hq:=HQ.out;have hne:((an:Int)==(fa:Int))=false:=bo0;have hne2:((an:Int) !=(fa:Int))=true:=by rw[bne,hne];rfl
  obtain rfl:Q=false:=by rw[hq];simp [h1]
  clear hq h1;go_wp2;go_ret;exact⟨rfl,HB3⟩
 subst h1;have hq:=HQ.out;simp only[ne_eq,h0,not_false_eq_true,decide_true,Bool.true_and]at hq;have HQ2:=hqz9 hq;clear hq HQ;go_upto_region 4 with(fail)
 have hk10:(sk==10)=false:=bn0 (oq0 HSK);cases nb
 case true=>
  obtain rfl:Q=false:=by rw[HQ2.out];simp
  refine rW0 (fun W=>W.cell? (w,0)=some (I sk)∧W.cell? (w,1)=some (S sn)∧W.cell? (w2,0)=some (.bool false)) [0,0,0,0,1,0,0,0,0,0,0,0,0,0,0,0,0,0,0,0,0,0,0,0,0,0,0,0,0] ?hS ?_
  case hS=>intro wd hh;have h9:=row_at HX3.out hh 0;exact⟨row_at HR3.out hh 0,row_at HR3.out hh 1,h9⟩
  intro wd hh hgd hS;have HRD:=kp0 HR3 hgd;have HXD:=kp0 HX3 hgd;have HBD:=gw0 HB3 hgd;clear hh hgd c0 c1 c2 x0 x1
  try clear c3
  try clear c4
  try clear x2
  try clear x3
  refine lkP ?_;go_wp2_with (go_at_call 59;refine mh0 (HNM _) fun w4 hb4=> ?_;have HR4:=xt0 HRD hb4;have HX4:=xt0 HXD hb4;have HB4:=bt0 HBD hb4;clear hS)
  refine QN_keep ⟨HR4.cell 0,HR4.cell 1,HX4.cell 0⟩ fun hS=> ?_;refine lkN ?_;clear hS;go_wp2;go_ret;exact⟨rfl,HB4⟩
 by_cases hs:sn= []
 case neg=>
  have hsb:(sn== [])=false:=bn0 hs;have hsb2:(sn != [])=true:=by rw[bne,hsb];rfl
  obtain rfl:Q=false:=by rw[HQ2.out];simp [hs]
  clear hs;refine rW0 (fun W=>W.cell? (w,0)=some (I sk)∧W.cell? (w,1)=some (S sn)∧W.cell? (w2,0)=some (.bool false)) [0,0,0,0,1,0,0,0,0,0,0,0,0,0,0,0,0,0,0,0,0,0,0,0,0,0,0,0,0] ?hS ?_
  case hS=>intro wd hh;have h9:=row_at HX3.out hh 0;exact⟨row_at HR3.out hh 0,row_at HR3.out hh 1,h9⟩
  intro wd hh hgd hS;have HRD:=kp0 HR3 hgd;have HXD:=kp0 HX3 hgd;have HBD:=gw0 HB3 hgd;clear hh hgd c0 c1 c2 x0 x1
  try clear c3
  try clear c4
  try clear x2
  try clear x3
  refine lkP ?_;go_wp2_with (go_at_call 59;refine mh0 (HNM _) fun w4 hb4=> ?_;have HR4:=xt0 HRD hb4;have HX4:=xt0 HXD hb4;have HB4:=bt0 HBD hb4;clear hS)
  refine QN_keep ⟨HR4.cell 0,HR4.cell 1,HX4.cell 0⟩ fun hS=> ?_;refine lkN ?_;clear hS;go_wp2;go_ret;exact⟨rfl,HB4⟩
 subst hs;have HQ3:=hqz9 (HQ2.out);refine rW0 (fun W=>W.cell? (w,0)=some (I sk)∧W.cell? (w,1)=some (S [])∧W.cell? (w2,0)=some (.bool false)) [0,0,0,0,1,0,0,0,0,0,0,0,0,0,0,0,0,0,0,0,0,0,0,0,0,0,0,0,0] ?hS ?_
 case hS=>intro wd hh;have h9:=row_at HX3.out hh 0;exact⟨row_at HR3.out hh 0,row_at HR3.out hh 1,h9⟩
 intro wd hh hgd hS;have HRD:=kp0 HR3 hgd;have HXD:=kp0 HX3 hgd;have HBD:=gw0 HB3 hgd;clear hh hgd c0 c1 c2 x0 x1
 try clear c3
 try clear c4
 try clear x2
 try clear x3
 refine lkP ?_;go_wp2_with (go_at_call 59;refine mh0 (HNM _) fun w4 hb4=> ?_;have HR4:=xt0 HRD hb4;have HX4:=xt0 HXD hb4;have HB4:=bt0 HBD hb4;clear hS)
 refine QN_keep ⟨HR4.cell 0,HR4.cell 1,HX4.cell 0⟩ fun hS=> ?_;refine lkN ?_;have hr4:=HR4.out;have c2:=hr4.k2;have HCT:=hqz9 (HCE w4 HB4);clear hr4 hS;have hq:=HQ3.out;cases al
 ·obtain rfl:Q=false:=by rw[hq];simp
  clear hq;go_wp2_with (go_at_call 102;refine mh0 HCT fun w5 hb5=> ?_;have HB5:=bt0 HB4 hb5)
  go_ret;exact⟨rfl,HB5⟩
 cases bt
 ·obtain rfl:Q=false:=by rw[hq];simp
  clear hq;go_wp2_with (first|(go_at_call 102;refine mh0 HCT fun w5 hb5=> ?_;have hr5:=HR4.ext hb5;have HR5:=hqz9 hr5;have HB5:=bt0 HB4 hb5;have c3:=hr5.k3;clear hr5)|(go_at_call 37;refine mh0 (HIT om0 w5 (HTX.grown (bg0 HB5) nx0)) fun w6 hb6=> ?_;have HB6:=bt0 HB5 hb6))
  go_ret;exact⟨rfl,HB6⟩
 obtain rfl:Q=be:=by rw[hq];simp
 clear hq HQ3;go_wp2_with (first|(go_at_call 102;refine mh0 HCT fun w5 hb5=> ?_;have hr5:=HR4.ext hb5;have HR5:=hqz9 hr5;have HB5:=bt0 HB4 hb5;have c3:=hr5.k3;clear hr5)|(go_at_call 37;(first|(refine mh0 (HIT om0 w5 (HTX.grown (bg0 HB5) nx0)) fun w6 hb6=> ?_;have hr6:=HR5.ext hb6;have HR6:=hqz9 hr6;have HB6:=bt0 HB5 hb6;have c4:=hr6.k4;clear hr6)|(refine mh0 (HIE om0 w6 (HEX.grown (bg0 HB6) nx0)) fun w7 hb7=> ?_;have HB7:=bt0 HB6 hb7))))
 go_ret;exact⟨rfl,HB7⟩
end
section
open Go.RowKit Go.Shelf
attribute [local go_sem] Oper.semAt_some
set_option maxRecDepth 100000 in
set_option maxHeartbeats 16000000 in
theorem stmt_c59 (s:LS) (hk:5≤s.kind∧s.kind≤9) (most:Int) (hm:0≤most∧most≤1000) (av tv ev:Value) (w:World) (B:Nat→Prop) (ha:AX B w av s.args) (ht:SX B w tv s.thn) (he:SX B w ev s.els)
  (hn:Asc s.name) (haE:∀x∈s.args,AscE x) (bt be:Bool) (it:1≤most→StsB s.thn (most - 1) tv B bt) (ie:1≤most→StsB s.els (most - 1) ev B be):
  CR 62 #[sV s av tv ev,I most] w (.bool (decide (most≠0)&&decide (s.args.length=(formL s.kind).args)&&decide (s.thn.length=0)&&decide (s.els.length=0)&& !(isName s.name)&&decide (s.name= [])&&allE s.args&&bt&&be)):=by
 have HFO:Hid (∀W:World,CR 101 #[I s.kind] W (.tuple #[.agg #[.bool false,I (formL s.kind).args, .bool false, .bool false], .bool true])):=hqz9 (fun W=>by
  have h:=formOf_yes s.kind om0 W;have h1:(formL s.kind).named=false:=by unfold formL;(repeat' split)<;>first|rfl|(exfalso;omega)
  have h2:(formL s.kind).thn=false:=by unfold formL;(repeat' split)<;>first|rfl|(exfalso;omega)
  have h3:(formL s.kind).more=false:=by unfold formL;(repeat' split)<;>first|rfl|(exfalso;omega)
  rw[h1,h2,h3]at h;exact h)
 obtain⟨fa,hfa⟩:∃n,n=(formL s.kind).args:=⟨_,rfl⟩;have⟨an,han⟩:=xq s.args.length;have⟨tn,htn⟩:=xq s.thn.length;have⟨en,hen⟩:=xq s.els.length;obtain⟨aa,ac,hav⟩:=ha.slice;rw[show(LE.mk 0 0 0 [] s.args).args.length=an from han.symm]at hav;obtain⟨ta,tc,htv⟩:=ht.slice;rw[←htn]at htv;obtain⟨ea,ec,hev⟩:=he.slice;rw[←hen]at hev;subst hav;subst htv;subst hev;have⟨sn,hsn⟩:=xq s.name;have⟨nb,hnb⟩:=xq (isName s.name);have⟨sk,hsk⟩:=xq s.kind;have⟨al,hal⟩:=xq (allE s.args);have HNM:=hqz9 (fun W=>name_any s.name hn W);have hsay:∀W d',SaysB agg5 (RE d' B) W 103 #[] (fun x=> !(bP (okE 40 x))) s.args:=fun W d'=>⟨enters_of Tryz.func103 kr0 rfl,fun x hx W' C hb hr=>by
  obtain⟨he,hex⟩:=hr.ev;rw[he];exact stmt1_any x (haE x hx) (C 4) W' B hex⟩
 have HAX:=hqz9 ha;have HCE:Hid (∀W,Below w w W→CR 102 #[.slice aa an ac, .func (.func 103) #[] #[]] W (.bool !al)):=hqz9 (fun W hb=>by
  obtain⟨d',hd'⟩:=HAX.grown (below_grown hb none) nx0;have h:=containsE_any W _ s.args hd' (fun W W' C x hb h=>h.below hb) 103 #[] _ (hsay W d');have hb:(!al)=(s.args.any fun x=> !(bP (okE 40 x))):=by rw[hal];unfold allE;rw[Bool.not_not]
  rw[hb];exact h)
 have HTX:=hqz9 ht;have HEX:=hqz9 he;have HIT:=hqz9 it;have HIE:=hqz9 ie;obtain⟨Q,hQ⟩:∃Q,Q=(decide (most≠0)&&decide (an=fa)&&decide (tn=0)&&decide (en=0)&& !nb&&decide (sn= [])&&al&&bt&&be):=⟨_,rfl⟩;rw[←han,←hfa,←htn,←hen,←hnb,←hsn,←hal];rw[←hQ];have hval:sV s (.slice aa an ac) (.slice ta tn tc) (.slice ea en ec)= .agg #[I sk,S sn, .slice aa an ac, .slice ta tn tc, .slice ea en ec]:=by rw[sV,hsk,hsn]
 rw[hval];clear hval;rw[←hfa,←hsk]at HFO;rw[←hsn]at HNM;rw[←hnb.trans (congrArg isName hsn).symm]at HNM;have HQ:=hqz9 hQ;obtain⟨hm0,hm1⟩:=hm;have⟨w1,hw1⟩:=xq (w.alloc (.cells #[I sk,S sn, .slice aa an ac, .slice ta tn tc, .slice ea en ec] 55));have HB1:=hqz9 (aB0 hw1);have hR1:=aN0 hw1;have HR1:=hqz9 hR1;have b0:=hR1.k0;have hwe:w.alloc (.cells #[I sk,S sn, .slice aa an ac, .slice ta tn tc, .slice ea en ec] 55)=w1:=hw1.symm;have HSK:=hqz9 (hsk▸hk:5≤sk∧sk≤9);have HFA:=hqz9 (True.intro);clear ha ht he it ie hn haE hsay hfa han htn hen hsn hnb hsk hal hQ hw1 hR1 hk;go_enter Tryz.func62,Tryz.ntmps62;go_upto_region 2 with(first|(go_at_call 101;refine mh0 (HFO _) fun w2 hb2=> ?_;have HR2:=xt0 HR1 hb2;have HB2:=bt0 HB1 hb2)|(refine sr 170 (.tmp 5) (.tmp 11) w2 frZ hn0 ?_))
 have hzb:=HB2.size;have hlb:=HR2.lt;obtain⟨w3,hw3⟩:∃w3,w3=(w2.alloc (.cells frZ 170)).setRow w2 #[.bool false,I fa, .bool false, .bool false]:=⟨_,rfl⟩;have hR3:Row w3 w 55 [I sk,S sn, .slice aa an ac, .slice ta tn tc, .slice ea en ec]:=by rw[hw3];exact(setRow_other _ _ _ _ om0).trans (ho0 HR2.out)
 have hX3:Row w3 w2 170 [.bool false,I fa, .bool false, .bool false]:=by rw[hw3];exact setRow_heap _ _ _ _ _ _ hn0
 have HB3:=hqz9 (show Below w w w3 by rw[hw3];exact(HB2.alloc hzb _).grown setRow_grown so0 sx0);rw[←hw3];have HR3:=hqz9 hR3;have HX3:=hqz9 hX3;have c0:=hR3.k0;have c1:=hR3.k1;have c2:=hR3.k2;have c3:=hR3.k3;have c4:=hR3.k4;have x0:=hX3.k0;have x1:=hX3.k1;have x2:=hX3.k2;have x3:=hX3.k3;clear hw3 hR3 hX3 b0;by_cases h0:most=0
 case pos=>
  have hq:=HQ.out;subst h0;obtain rfl:Q=false:=by rw[hq];simp
  clear hq;go_wp2;go_ret;exact⟨rfl,HB3⟩
 have hmz:(most==0)=false:=bn0 h0;by_cases h1:an=fa
 case neg=>
  have hq:=HQ.out;have hne:((an:Int)==(fa:Int))=false:=bo0;have hne2:((an:Int) !=(fa:Int))=true:=by rw[bne,hne];rfl
  obtain rfl:Q=false:=by rw[hq];simp [h1]
  clear hq h1;go_wp2;go_ret;exact⟨rfl,HB3⟩
 subst h1;by_cases htn:tn=0
 case neg=>
  have hq:=HQ.out;have hpos:0<(tn:Int):=om0;obtain rfl:Q=false:=by rw[hq];simp [htn]
  clear hq htn;go_wp2;go_ret;exact⟨rfl,HB3⟩
 subst htn;by_cases hen:en=0
 case neg=>
  have hq:=HQ.out;have hpos:0<(en:Int):=om0;obtain rfl:Q=false:=by rw[hq];simp [hen]
  clear hq hen;go_wp2;go_ret;exact⟨rfl,HB3⟩
 subst hen;have hq:=HQ.out;simp only[ne_eq,h0,not_false_eq_true,decide_true,Bool.true_and]at hq;have HQ2:=hqz9 hq;clear hq HQ;go_upto_region 4 with(fail)
 have hk10:(sk==10)=false:=bn0 (oq0 HSK);cases nb
 case true=>
  obtain rfl:Q=false:=by rw[HQ2.out];simp
  refine rW0 (fun W=>W.cell? (w,0)=some (I sk)∧W.cell? (w,1)=some (S sn)∧W.cell? (w2,0)=some (.bool false)) [0,0,0,0,1,0,0,0,0,0,0,0,0,0,0,0,0,0,0,0,0,0,0,0,0,0,0,0,0] ?hS ?_
  case hS=>intro wd hh;have h9:=row_at HX3.out hh 0;exact⟨row_at HR3.out hh 0,row_at HR3.out hh 1,h9⟩
  intro wd hh hgd hS;have HRD:=kp0 HR3 hgd;have HXD:=kp0 HX3 hgd;have HBD:=gw0 HB3 hgd;clear hh hgd c0 c1 c2 x0 x1
  try clear c3
  try clear c4
  try clear x2
  try clear x3
  refine lkP ?_;go_wp2_with (go_at_call 59;refine mh0 (HNM _) fun w4 hb4=> ?_;have HR4:=xt0 HRD hb4;have HX4:=xt0 HXD hb4;have HB4:=bt0 HBD hb4;clear hS)
  refine QN_keep ⟨HR4.cell 0,HR4.cell 1,HX4.cell 0⟩ fun hS=> ?_;refine lkN ?_;clear hS;go_wp2;go_ret;exact⟨rfl,HB4⟩
 by_cases hs:sn= []
 case neg=>
  have hsb:(sn== [])=false:=bn0 hs;have hsb2:(sn != [])=true:=by rw[bne,hsb];rfl
  obtain rfl:Q=false:=by rw[HQ2.out];simp [hs]
  clear hs;refine rW0 (fun W=>W.cell? (w,0)=some (I sk)∧W.cell? (w,1)=some (S sn)∧W.cell? (w2,0)=some (.bool false)) [0,0,0,0,1,0,0,0,0,0,0,0,0,0,0,0,0,0,0,0,0,0,0,0,0,0,0,0,0] ?hS ?_
  case hS=>intro wd hh;have h9:=row_at HX3.out hh 0;exact⟨row_at HR3.out hh 0,row_at HR3.out hh 1,h9⟩
  intro wd hh hgd hS;have HRD:=kp0 HR3 hgd;have HXD:=kp0 HX3 hgd;have HBD:=gw0 HB3 hgd;clear hh hgd c0 c1 c2 x0 x1
  try clear c3
  try clear c4
  try clear x2
  try clear x3
  refine lkP ?_;go_wp2_with (go_at_call 59;refine mh0 (HNM _) fun w4 hb4=> ?_;have HR4:=xt0 HRD hb4;have HX4:=xt0 HXD hb4;have HB4:=bt0 HBD hb4;clear hS)
  refine QN_keep ⟨HR4.cell 0,HR4.cell 1,HX4.cell 0⟩ fun hS=> ?_;refine lkN ?_;clear hS;go_wp2;go_ret;exact⟨rfl,HB4⟩
 subst hs;have HQ3:=hqz9 (HQ2.out);refine rW0 (fun W=>W.cell? (w,0)=some (I sk)∧W.cell? (w,1)=some (S [])∧W.cell? (w2,0)=some (.bool false)) [0,0,0,0,1,0,0,0,0,0,0,0,0,0,0,0,0,0,0,0,0,0,0,0,0,0,0,0,0] ?hS ?_
 case hS=>intro wd hh;have h9:=row_at HX3.out hh 0;exact⟨row_at HR3.out hh 0,row_at HR3.out hh 1,h9⟩
 intro wd hh hgd hS;have HRD:=kp0 HR3 hgd;have HXD:=kp0 HX3 hgd;have HBD:=gw0 HB3 hgd;clear hh hgd c0 c1 c2 x0 x1
 try clear c3
 try clear c4
 try clear x2
 try clear x3
 refine lkP ?_;go_wp2_with (go_at_call 59;refine mh0 (HNM _) fun w4 hb4=> ?_;have HR4:=xt0 HRD hb4;have HX4:=xt0 HXD hb4;have HB4:=bt0 HBD hb4;clear hS)
 refine QN_keep ⟨HR4.cell 0,HR4.cell 1,HX4.cell 0⟩ fun hS=> ?_;refine lkN ?_;have hr4:=HR4.out;have c2:=hr4.k2;have HCT:=hqz9 (HCE w4 HB4);clear hr4 hS;have hq:=HQ3.out;cases al
 ·obtain rfl:Q=false:=by rw[hq];simp
  clear hq;go_wp2_with (go_at_call 102;refine mh0 HCT fun w5 hb5=> ?_;have HB5:=bt0 HB4 hb5)
  go_ret;exact⟨rfl,HB5⟩
 cases bt
 ·obtain rfl:Q=false:=by rw[hq];simp
  clear hq;go_wp2_with (first|(go_at_call 102;refine mh0 HCT fun w5 hb5=> ?_;have hr5:=HR4.ext hb5;have HR5:=hqz9 hr5;have HB5:=bt0 HB4 hb5;have c3:=hr5.k3;clear hr5)|(go_at_call 37;refine mh0 (HIT om0 w5 (HTX.grown (bg0 HB5) nx0)) fun w6 hb6=> ?_;have HB6:=bt0 HB5 hb6))
  go_ret;exact⟨rfl,HB6⟩
 obtain rfl:Q=be:=by rw[hq];simp
 clear hq HQ3;go_wp2_with (first|(go_at_call 102;refine mh0 HCT fun w5 hb5=> ?_;have hr5:=HR4.ext hb5;have HR5:=hqz9 hr5;have HB5:=bt0 HB4 hb5;have c3:=hr5.k3;clear hr5)|(go_at_call 37;(first|(refine mh0 (HIT om0 w5 (HTX.grown (bg0 HB5) nx0)) fun w6 hb6=> ?_;have hr6:=HR5.ext hb6;have HR6:=hqz9 hr6;have HB6:=bt0 HB5 hb6;have c4:=hr6.k4;clear hr6)|(refine mh0 (HIE om0 w6 (HEX.grown (bg0 HB6) nx0)) fun w7 hb7=> ?_;have HB7:=bt0 HB6 hb7))))
 go_ret;exact⟨rfl,HB7⟩
end
end Go.Proofs.YtngglbakkedaiaaGreatDoor
