import Derived.Test.YtngglbakkedaiaaGreatDoorE2
import Derived.Test.YtngglbakkedaiaaGreatDoorQ9
import Derived.Test.YtngglbakkedaiaaGreatDoorYF
set_option linter.all false
namespace Go.Proofs.YtngglbakkedaiaaGreatDoor
section
open Go.RowKit Go.Shelf
attribute [local go_sem] Oper.semAt_some
structure ShortF (f:LF):Prop where
 name:f.name.length≤1000000
 params:∀x∈f.params,x.length≤1000000
 locals:∀x∈f.locals,x.length≤1000000
 body:∀x∈f.body,ShortS x
structure ShortP (p:LP):Prop where
 arrays:∀a∈p.arrays,a.name.length≤1000000
 funcs:∀f∈p.funcs,ShortF f
set_option maxRecDepth 100000 in
set_option maxHeartbeats 16000000 in
theorem right54_any (p:LP) (hap:AscP p) (hsp:ShortP p) (av fv:Value) (w:World) (B:Nat→Prop) (hx:PX B w av fv p):
  CR 20 #[.agg #[av,fv]] w (.bool (bP (okP p))):=by
 have HSH:=hqz9 hsp;clear hsp;have⟨Q,hQ⟩:=xq (bP (okP p));have HQ:=hqz9 hQ;rw[←hQ];obtain⟨aa,ac,fa,fc,rfl,rfl⟩:=hx.slice;have HX:=hqz9 hx;have HP:=hqz9 hap;have HB1:=hqz9 (below_a1 w (.cells #[.slice aa p.arrays.length ac, .slice fa p.funcs.length fc] 27));have HR1:=hqz9 (show Row (w.alloc (.cells #[.slice aa p.arrays.length ac, .slice fa p.funcs.length fc] 27)) w 27 [.slice aa p.arrays.length ac, .slice fa p.funcs.length fc]from heap_new _ _);have hla:=hx.arrays;have hlf:=hx.funcs;obtain⟨_,_,_,hln, -⟩:=hla;obtain⟨_,_,_,hlm, -⟩:=hlf;clear hx hap hQ;have hr1:=HR1.out;have i0:=hr1.k0;have i1:=hr1.k1;clear hr1;go_enter Tryz.func20,Tryz.ntmps20;go_upto_region 2 with(fail)
 go_loopg [3] p.arrays.length (fun gh i wr=>∃k:Nat,gh+k=p.arrays.length∧i=I k∧wr.cell? (w,0)=some (.slice aa p.arrays.length ac)∧wr.cell? (w,1)=some (.slice fa p.funcs.length fc)∧Hid (Below w w wr∧Row wr w 27 [.slice aa p.arrays.length ac, .slice fa p.funcs.length fc]∧∀j,(hj:j<p.arrays.length)→j<k→okA p.arrays[j]))
 case atStart=>exact⟨0,rfl,rfl,i0,i1,hqz9 ⟨HB1,HR1,fun j _ h=>absurd h om0⟩⟩
 case round=>
  obtain⟨k,hg,rfl,i0',i1',HH⟩:=hrel;clear i0 i1;obtain⟨wo,rfl⟩:=xq wr;by_cases hlt:k<p.arrays.length
  ·have hltz:(k:Int)<(p.arrays.length:Int):=om0;obtain⟨b,o,C,rfl,_,hC,hrx⟩:=(HX.arrays.below HH.out.1 (fun C x h=>h)).at hlt;have hok:=HP.arrays _ (List.getElem_mem hlt);have hsh:=HSH.arrays _ (List.getElem_mem hlt);have⟨x,hx⟩:=xq (p.arrays[k]);rw[←hx]at hrx hok hsh;have HBAD:=hqz9 (show¬okA x→Q=false from fun hn=>by
    rw[HQ.out];exact bP_false fun h=>hn (by rw[hx];exact h.arrays _ (List.getElem_mem hlt)))
   have HXK:=hqz9 hx;have HASC:=hqz9 hok;obtain⟨h0,h1⟩:=hrx;have e0:=hC 0 om0;have e1:=hC 1 om0;rw[h0]at e0;rw[h1]at e1;simp only[Nat.add_zero]at e0 e1;have⟨nb,hnb⟩:=xq (isName x.name);have HN:=hqz9 (fun W=>name93_any x.name hok hsh W);rw[←hnb]at HN;have HNB:=hqz9 hnb;clear hC h0 h1 hok hsh hx hnb;cases nb
   case false=>
    obtain rfl:Q=false:=HBAD fun h=>by have:=h.1.2;rw[←HNB.out]at this;cases this
    go_wp2_with (go_at_call 38;refine mr0 (HN _) ?_)
    go_ret;exact⟨rfl,HH.out.1⟩
   by_cases hs3:x.size<1
   case pos=>
    obtain rfl:Q=false:=HBAD fun h=>by have:=h.2.1;omega
    go_wp2_with (go_at_call 38;refine mr0 (HN _) ?_)
    go_ret;exact⟨rfl,HH.out.1⟩
   by_cases hs4:1048576<x.size
   case pos=>
    obtain rfl:Q=false:=HBAD fun h=>by have:=h.2.2;omega
    go_wp2_with (go_at_call 38;refine mr0 (HN _) ?_)
    go_ret;exact⟨rfl,HH.out.1⟩
   have HOK:=hqz9 (show okA x from⟨⟨HASC,HNB.out.symm⟩,om0,om0⟩);go_wp2_with (go_at_call 38;refine mr0 (HN _) ?_)
   go_roundg (p.arrays.length - (k+1))
   case measure=>omega
   case rel=>exact⟨k+1,om0,by go_num,i0',i1',hqz9 ⟨HH.out.1,HH.out.2.1,fun j hj hjk=>by
    by_cases e:j=k
    ·subst e;rw[←HXK.out];exact HOK.out
    ·exact HH.out.2.2 j hj om0⟩⟩
  ·have hltz: ¬(k:Int)<(p.arrays.length:Int):=om0;have HB5:=hqz9 HH.out.1;have HR5:=hqz9 HH.out.2.1;have HAR:=hqz9 (show∀a∈p.arrays,okA a from fun a ha=>by
    obtain⟨j,hj,rfl⟩:=List.getElem_of_mem ha;exact HH.out.2.2 j hj om0)
   clear HH;go_upto_region 8 with(fail)
   go_loopg [5] p.funcs.length (fun gh i wr=>∃k:Nat,gh+k=p.funcs.length∧i=I k∧wr.cell? (w,1)=some (.slice fa p.funcs.length fc)∧Hid (Below w w wr∧Row wr w 27 [.slice aa p.arrays.length ac, .slice fa p.funcs.length fc]∧∀j,(hj:j<p.funcs.length)→j<k→okF p.funcs[j]))
   case atStart=>exact⟨0,rfl,rfl,i1',hqz9 ⟨HB5,HR5,fun j _ h=>absurd h om0⟩⟩
   case round=>
    obtain⟨j,hg2,rfl,i1,HH⟩:=hrel;clear i0' i1';obtain⟨wq,rfl⟩:=xq wr;by_cases hlt2:j<p.funcs.length
    ·have hltz2:(j:Int)<(p.funcs.length:Int):=om0;obtain⟨b,o,C,rfl,_,hC,hrx⟩:=(HX.funcs.below HH.out.1 (fun C x h=>h.grown (below_grown HH.out.1 none) nx0)).at hlt2;have hok:=HP.funcs _ (List.getElem_mem hlt2);have hsh:=HSH.funcs _ (List.getElem_mem hlt2);have⟨x,hx⟩:=xq (p.funcs[j]);rw[←hx]at hrx hok hsh;have HBAD:=hqz9 (show¬okF x→Q=false from fun hn=>by
      rw[HQ.out];exact bP_false fun h=>hn (by rw[hx];exact h.funcs _ (List.getElem_mem hlt2)))
     have HXK:=hqz9 hx;have HASC:=hqz9 hok;obtain⟨h0,hpar,hloc,hbody⟩:=hrx;have e0:=hC 0 om0;have e1:=hC 1 om0;have e2:=hC 2 om0;have e3:=hC 3 om0;obtain⟨pa,pc,hpv, -⟩:=id hpar;obtain⟨la,lc,hlv, -⟩:=id hloc;obtain⟨ba,bc,hbv⟩:=hbody.slice;rw[h0]at e0;rw[hpv]at e1 hpar;rw[hlv]at e2 hloc;rw[hbv]at e3 hbody;simp only[Nat.add_zero]at e0 e1 e2 e3;have⟨nb,hnb⟩:=xq (isName x.name);have⟨np,hnp⟩:=xq (x.params.all isName);have⟨nl,hnl⟩:=xq (x.locals.all isName);obtain⟨fn,hfn⟩:∃n:Nat,n=farC 42 x.body:=⟨_,rfl⟩;have⟨bb,hbb⟩:=xq (bP (∀y∈x.body,wellS y));have HN:=hqz9 (fun W=>name93_any x.name hok.name hsh.name W);have HNP:=hqz9 (fun W hh=>names94_any (B:=B) W (.slice pa x.params.length pc) x.params hh hok.params hsh.params);have HNL:=hqz9 (fun W hh=>names94_any (B:=B) W (.slice la x.locals.length lc) x.locals hh hok.locals hsh.locals);have HFAR:=hqz9 (fun W (hh:SX B W (.slice ba x.body.length bc) x.body)=>far95_any 42 om0 x.body (.slice ba x.body.length bc) W B hh);have HNB:=hqz9 (fun W (hh:SX B W (.slice ba x.body.length bc) x.body)=>hh.elim fun d hd=>sts96_any d x.body (.slice ba x.body.length bc) W B hok.body hsh.body hd);rw[←hnb]at HN;rw[←hnp]at HNP;rw[←hnl]at HNL;rw[←hbb]at HNB;rw[←hfn]at HFAR;have HOKF:=hqz9 (show okF x↔nb=true∧np=true∧nl=true∧x.params.length≤6∧fn≤40∧bb=true from by
      rw[hnb,hnp,hnl,hbb,hfn,bP_iff,←body_iff,←names_iff _ hok.params,←names_iff _ hok.locals];exact⟨fun h=>⟨h.1.2,h.2⟩,fun h=>⟨⟨hok.name,h.1⟩,h.2⟩⟩)
     have HPA:=hqz9 hpar;have HLO:=hqz9 hloc;have HBO:=hqz9 hbody;clear hC h0 hnp hnl hnb hbb hfn hok hsh hpar hloc hbody hpv hlv hbv hx;go_upto_region 11 with(refine sr 51 (.tmp 6) (.tmp 56) wq fZ4 hn0 ?_)
     obtain⟨w3,hw3⟩:∃w3,w3=(wq.alloc (.cells fZ4 51)).setRow wq #[S x.name, .slice pa x.params.length pc, .slice la x.locals.length lc, .slice ba x.body.length bc]:=⟨_,rfl⟩;have hz:=HH.out.1.size;have hb3:Below wq wq w3:=by rw[hw3];exact(below_a1 wq _).grown setRow_grown sm0 sx0
     have hx3:Row w3 wq 51 [S x.name, .slice pa x.params.length pc, .slice la x.locals.length lc, .slice ba x.body.length bc]:=by rw[hw3];exact setRow_heap _ _ _ _ _ _ hn0
     rw[←hw3];have c0:=hx3.cell 0;simp only[List.getElem?_cons_zero]at c0;have c1:=hx3.k1;have c2:=hx3.k2;have c3:=hx3.k3;have HB3:=hqz9 hb3;have HX3:=hqz9 hx3;clear hw3 hb3 hx3 e0 e1 e2 e3
     skip
     have HZ:=hqz9 hz;cases nb
     case false=>
      obtain rfl:Q=false:=HBAD fun h=>by have:=(HOKF.1 h).1;cases this
      go_upto_region 12 with(go_at_call 38;refine mr0 (HN _) ?_)
      go_upto_region 13 with(go_at_call 39;refine mr0 (HNP _ (HPA.grown (bg0 HB3) nx0 i20)) ?_)
      go_upto_region 14 with(go_at_call 39;refine mr0 (HNL _ (HLO.grown (bg0 HB3) nx0 i20)) ?_)
      go_wp2;go_ret;exact⟨rfl,HH.out.1.trans (HB3.mono hz)⟩
     cases np
     case false=>
      obtain rfl:Q=false:=HBAD fun h=>by have:=(HOKF.1 h).2.1;cases this
      go_upto_region 12 with(go_at_call 38;refine mr0 (HN _) ?_)
      go_upto_region 13 with(go_at_call 39;refine mr0 (HNP _ (HPA.grown (bg0 HB3) nx0 i20)) ?_)
      go_upto_region 14 with(go_at_call 39;refine mr0 (HNL _ (HLO.grown (bg0 HB3) nx0 i20)) ?_)
      go_wp2;go_ret;exact⟨rfl,HH.out.1.trans (HB3.mono hz)⟩
     cases nl
     case false=>
      obtain rfl:Q=false:=HBAD fun h=>by have:=(HOKF.1 h).2.2.1;cases this
      go_upto_region 12 with(go_at_call 38;refine mr0 (HN _) ?_)
      go_upto_region 13 with(go_at_call 39;refine mr0 (HNP _ (HPA.grown (bg0 HB3) nx0 i20)) ?_)
      go_upto_region 14 with(go_at_call 39;refine mr0 (HNL _ (HLO.grown (bg0 HB3) nx0 i20)) ?_)
      go_wp2;go_ret;exact⟨rfl,HH.out.1.trans (HB3.mono hz)⟩
     by_cases hp6:x.params.length≤6
     case neg=>
      have hp6z:6<(x.params.length:Int):=om0;obtain rfl:Q=false:=HBAD fun h=>by exact hp6 (HOKF.1 h).2.2.2.1
      go_upto_region 12 with(go_at_call 38;refine mr0 (HN _) ?_)
      go_upto_region 13 with(go_at_call 39;refine mr0 (HNP _ (HPA.grown (bg0 HB3) nx0 i20)) ?_)
      go_upto_region 14 with(go_at_call 39;refine mr0 (HNL _ (HLO.grown (bg0 HB3) nx0 i20)) ?_)
      go_wp2;go_ret;exact⟨rfl,HH.out.1.trans (HB3.mono hz)⟩
     have hp6z: ¬6<(x.params.length:Int):=om0
     by_cases hf:fn≤40
     case neg=>
      have hfz:40<(fn:Int):=om0;obtain rfl:Q=false:=HBAD fun h=>by exact hf (HOKF.1 h).2.2.2.2.1
      go_upto_region 12 with(go_at_call 38;refine mr0 (HN _) ?_)
      go_upto_region 13 with(go_at_call 39;refine mr0 (HNP _ (HPA.grown (bg0 HB3) nx0 i20)) ?_)
      go_upto_region 14 with(go_at_call 39;refine mr0 (HNL _ (HLO.grown (bg0 HB3) nx0 i20)) ?_)
      go_wp2_with (go_at_call 40;refine mh0 (HFAR _ (HBO.grown (bg0 HB3) nx0)) fun w5 hb5=> ?_;have HB5:=bt0 HB3 hb5;have hx5:=HX3.ext hb5;have c3:=hx5.k3;clear hx5)
      go_ret;exact⟨rfl,HH.out.1.trans (HB5.mono hz)⟩
     have hfz: ¬40<(fn:Int):=om0;cases bb
     case false=>
      obtain rfl:Q=false:=HBAD fun h=>by have:=(HOKF.1 h).2.2.2.2.2;cases this
      go_upto_region 12 with(go_at_call 38;refine mr0 (HN _) ?_)
      go_upto_region 13 with(go_at_call 39;refine mr0 (HNP _ (HPA.grown (bg0 HB3) nx0 i20)) ?_)
      go_upto_region 14 with(go_at_call 39;refine mr0 (HNL _ (HLO.grown (bg0 HB3) nx0 i20)) ?_)
      go_wp2_with (first|(go_at_call 40;refine mh0 (HFAR _ (HBO.grown (bg0 HB3) nx0)) fun w5 hb5=> ?_;have HB5:=bt0 HB3 hb5;have hx5:=HX3.ext hb5;have c3:=hx5.k3;clear hx5)|(go_at_call 41;refine mh0 (HNB _ (HBO.grown (bg0 HB5) nx0)) fun w6 hb6=> ?_;have HB6:=bt0 HB5 hb6))
      go_ret;exact⟨rfl,HH.out.1.trans (HB6.mono hz)⟩
     have HOK:=hqz9 (HOKF.2 ⟨rfl,rfl,rfl,hp6,hf,rfl⟩);go_upto_region 12 with(go_at_call 38;refine mr0 (HN _) ?_)
     go_upto_region 13 with(go_at_call 39;refine mr0 (HNP _ (HPA.grown (bg0 HB3) nx0 i20)) ?_)
     go_upto_region 14 with(go_at_call 39;refine mr0 (HNL _ (HLO.grown (bg0 HB3) nx0 i20)) ?_)
     go_wp2_with (first|(go_at_call 40;refine mh0 (HFAR _ (HBO.grown (bg0 HB3) nx0)) fun w5 hb5=> ?_;have HB5:=bt0 HB3 hb5;have hx5:=HX3.ext hb5;have c3:=hx5.k3;clear hx5)|(go_at_call 41;refine mh0 (HNB _ (HBO.grown (bg0 HB5) nx0)) fun w6 hb6=> ?_;have HB6:=bt0 HB5 hb6))
     have hrw:=(HH.out.2.1.ext (HB6.out)).k1;go_roundg (p.funcs.length - (j+1))
     case measure=>omega
     case rel=>exact⟨j+1,om0,by go_num,hrw,hqz9 ⟨HH.out.1.trans (HB6.mono hz),HH.out.2.1.ext HB6,fun i hi hij=>by
      by_cases e:i=j
      ·subst e;rw[←HXK.out];exact HOK.out
      ·exact HH.out.2.2 i hi om0⟩⟩
    ·have hltz2: ¬(j:Int)<(p.funcs.length:Int):=om0;have hend:Q=true:=by
      rw[HQ.out];exact bP_true ⟨HAR,fun f hf=>by
       obtain⟨i,hi,rfl⟩:=List.getElem_of_mem hf;exact HH.out.2.2 i hi om0⟩
     subst hend;go_wp2;go_ret;exact⟨rfl,HH.out.1⟩
end
section
open Go.RowKit Go.Shelf
attribute [local go_sem] Oper.semAt_some
theorem NmG.nil:NmG []:=⟨nx0,sm0⟩
def OdE (e:LE):Prop:=AscE e∧ShortE e
theorem OdE.of {e:LE} (h1:NmG e.name) (h2:∀x∈e.args,OdE x):OdE e:=by
 refine⟨fun d=> ?_,fun d=> ?_⟩
 ·cases d with
  |zero=>trivial
  |succ d=>exact⟨h1.1,fun x hx=>(h2 x hx).1 d⟩
 ·cases d with
  |zero=>trivial
  |succ d=>exact⟨by have:=h1.2;omega,fun x hx=>(h2 x hx).2 d⟩
theorem OdE.args {e:LE} (h:OdE e):∀x∈e.args,OdE x:=fun x hx=>⟨h.1.args x hx,h.2.args x hx⟩
def bnd:Nat→Nat
 |0=>0
 |d+1=>1+8*bnd d
theorem DrS.tot {c:Sc}:∀(d:Nat) (loop:Bool) (s:LS),DrS c d loop s→totS s≤bnd d
 |0,_,_,h=>h.elim
 |d+1,loop,.mk k n a t e,h=>by
  have ht:totL t≤t.length*bnd d:=totL_le t fun x hx=>DrS.tot d _ x (h.2.2.1 x hx)
  have he:totL e≤e.length*bnd d:=totL_le e fun x hx=>DrS.tot d _ x (h.2.2.2 x hx)
  have hl:t.length≤4∧e.length≤4:=by
   have h0:∀{l:List LS},l= []→l.length≤4:=fun h=>by rw[h];exact Nat.zero_le _
   rcases h.1 with h|h|h|h|h|h|h
   ·exact⟨h0 h.2.2.2.1,h0 h.2.2.2.2⟩
   ·exact⟨h0 h.2.2.2.1,h0 h.2.2.2.2⟩
   ·exact h.2.2.2
   ·exact⟨h.2.2.2.2,h0 h.2.2.2.1⟩
   ·exact⟨h0 h.2.2.2.2.1,h0 h.2.2.2.2.2⟩
   ·exact⟨h0 h.2.2.2.1,h0 h.2.2.2.2⟩
   ·exact⟨h0 h.2.2.2.2.1,h0 h.2.2.2.2.2⟩
  have h1:=Nat.mul_le_mul_right (bnd d) hl.1
  have h2:=Nat.mul_le_mul_right (bnd d) hl.2
  simp only[totS,bnd]
  omega
def OdS (s:LS):Prop:=AscS s∧ShortS s∧totS s≤600+depS s
theorem OdS.of {s:LS} (h1:NmG s.name) (h2:∀x∈s.args,OdE x) (h3:∀x∈s.thn,OdS x) (h4:∀x∈s.els,OdS x) (h5:totS s≤600+depS s:=by exact tot_0):OdS s:=by
 refine⟨fun d=> ?_,fun d=> ?_,h5⟩
 ·cases d with
  |zero=>trivial
  |succ d=>exact⟨h1.1,fun x hx=>(h2 x hx).1,fun x hx=>(h3 x hx).1 d,fun x hx=>(h4 x hx).1 d⟩
 ·cases d with
  |zero=>trivial
  |succ d=>exact⟨by have:=h1.2;omega,fun x hx=>(h2 x hx).2,fun x hx=>(h3 x hx).2.1 d,fun x hx=>(h4 x hx).2.1 d⟩
theorem DrE.od {free:Bool}:∀(d:Nat) (e:LE),DrE (cW free) d e→OdE e
 |0,_,h=>h.elim
 |d+1,e,h=>by
  refine OdE.of ?_ fun x hx=>DrE.od d x (h.2 x hx)
  rcases h.1 with h|h|h|h|h|h|h
  ·rw[h.2.2.2.1];exact NmG.nil
  ·exact h.2.1
  ·rw[h.2.2.2.1];exact NmG.nil
  ·rw[h.2.2.2.1];exact NmG.nil
  ·exact h.2.1.1
  ·exact h.2.1
  ·rw[h.2.2.2.1];exact NmG.nil
theorem bnd_le:∀d,d≤4→bnd d≤600
 |0,_=>by decide
 |1,_=>by decide
 |2,_=>by decide
 |3,_=>by decide
 |4,_=>by decide
 |d+5,h=>by omega
theorem DrS.od {free:Bool}:∀(d:Nat) (loop:Bool) (s:LS),DrS (cW free) d loop s→d≤4→OdS s
 |0,_,_,h,_=>h.elim
 |d+1,loop,s,h,hd=>by
  have htt:=DrS.tot (d+1) loop s h;have htb:=bnd_le _ hd
  refine OdS.of ?_ (fun x hx=>DrE.od 4 x (h.2.1 x hx)) (fun x hx=>DrS.od d _ x (h.2.2.1 x hx) (by omega)) (fun x hx=>DrS.od d _ x (h.2.2.2 x hx) (by omega)) (by omega)
  rcases h.1 with h|h|h|h|h|h|h
  ·exact h.2.1
  ·exact h.2.1
  ·rw[h.2.1];exact NmG.nil
  ·rw[h.2.1];exact NmG.nil
  ·rw[h.2.2.1];exact NmG.nil
  ·rw[h.2.1];exact NmG.nil
  ·rw[h.2.1];exact NmG.nil
structure OdF (f:LF):Prop where
 name:NmG f.name
 params:∀x∈f.params,NmG x
 locals:∀x∈f.locals,NmG x
 body:∀x∈f.body,OdS x
 few:f.params.length+f.locals.length≤1000
 bl:f.body.length≤10
structure OdP (p:LP):Prop where
 arrays:∀a∈p.arrays,NmG a.name
 funcs:∀f∈p.funcs,OdF f
 few:p.arrays.length+p.funcs.length≤1000
theorem RawW.fd {free:Bool} {ars:List LA} {fs:List PQ} (h:RawW free ars fs) {q:PQ} (hq:q∈fs):OdF q.f:=by
 obtain⟨h1,h2,h3,h5,h4⟩:=h.fn q hq;refine⟨h1,fun x hx=>nm_raw x (List.mem_append_left _ (List.mem_append_left _ (List.mem_of_mem_take hx))),fun x hx=>nm_raw x (List.mem_append_left _ (List.mem_append_right _ (List.mem_of_mem_take hx))),fun x hx=>DrS.od 4 _ x (h4 x hx) (Nat.le_refl _), ?_,(by show q.body.length≤10;omega)⟩;show(nmP.take q.np).length+(nmL.take q.nl).length≤1000;rw[List.length_take,List.length_take];omega
theorem RawW.od {free:Bool} {ars:List LA} {fs:List PQ} (h:RawW free ars fs):OdP (rawP ars fs):=by
 refine⟨h.arr,fun f hf=> ?_, ?_⟩
 ·obtain⟨q,hq,rfl⟩:=List.mem_map.1 hf;exact h.fd hq
 ·show ars.length+(fs.map PQ.f).length≤1000;rw[List.length_map];have:=h.arrs;have:=h.fns;omega
theorem wpList_appR {α:Type} {t e k bytes:Nat} (S:SlT t e k bytes) {B:Nat→Prop} {R:World→(Nat→Value)→α→Prop} {w:World} {ops:Array Oper} {rest:List Oper} {o:Oper} {a:Act} {Q:Exit→Act→World→Prop} (hgd:o.guard=none) (s x:Operand)
  (ho:o.op= .call {callee:= .builtin .append,args:= #[s,x],argTypes:= #[t,t]})
  (base:Nat) (v:Value) (n:Nat) (xs:List Value) (hs:a.eval s=v) (hown:w.ownsRow base e k v n xs)
  (xv:Value) (ys:List α) (hx:a.eval x=xv) (hys:RSlB B k R w xv ys) (hR:∀C y,R w C y→∀j,j<k→(C j).oneCell'=true)
  (hl:n+ys.length≤1000000000) (hby:bytes≤1000) (hbase:base≤w.heap.size)
  (h:∀v' w' news,w'.ownsRow base e k v' (n+ys.length) (xs++news)→news.length=ys.length*k→(∀i y,ys[i]? =some y→∃C:Nat→Value,R w C y∧∀j,j<k→news[i*k+j]? =some (C j))→w.grownBy w' v.ownBlock→
   (∀g,v'.ownBlock=some g→v.ownBlock=some g∨g=w.heap.size)→wpList Tryz.prog ops Q rest (a.put o.dst v') w'):wpList Tryz.prog ops Q (o::rest) a w:=by
 obtain⟨xa,xc,rfl,hm,hor⟩:=hys;have hk:=S.pos;rcases Nat.eq_zero_or_pos ys.length with h0|h0
 ·have hn:ys= []:=List.length_eq_zero_iff.1 h0;subst hn;refine wpList_app0 S hgd s x ho base v n xs hs hown xa xc (by simpa using hx) ?_;exact h v w [] (by simpa using hown) sm0 (fun i y hy=>by simp at hy) ⟨rfl,rfl,rfl,Nat.le_refl _,fun _ _ _=>rfl⟩ (fun g hg=> .inl hg)
 ·rcases hor with rfl|⟨b,of,rfl, -,hc⟩
  ·exact absurd h0 sm0
  have hch:∀i (hi:i<ys.length),∃C:Nat→Value,(∀j,j<k→w.cell? (b,of+i*k+j)=some (C j))∧R w C ys[i]:=fun i hi=>hc i ys[i] (List.getElem?_eq_getElem hi)
  let F:Nat→Nat→Value:=fun i=>if hi:i<ys.length then Classical.choose (hch i hi)else fun _=>undef
  have hF:∀i (hi:i<ys.length),(∀j,j<k→w.cell? (b,of+i*k+j)=some (F i j))∧R w (F i) ys[i]:=fun i hi=>by
   have:F i=Classical.choose (hch i hi):=dif_pos hi;rw[this];exact Classical.choose_spec (hch i hi)
  let news:List Value:=(List.range (ys.length*k)).map fun q=>F (q/k) (q%k)
  have hnl:news.length=ys.length*k:=by simp [news]
  have hdiv:∀q,q<ys.length*k→q/k<ys.length:=fun q hq=>(Nat.div_lt_iff_lt_mul hk).2 hq;have hnq:∀q u,news[q]? =some u→q<ys.length*k∧u=F (q/k) (q%k):=fun q u hu=>by
   have hq:q<news.length:=(List.getElem?_eq_some_iff.1 hu).1;have he:=(List.getElem?_eq_some_iff.1 hu).2;refine⟨by rw[←hnl];exact hq, ?_⟩;rw[←he];simp [news]
  refine wpList_app S hgd s x ho base v n xs hs hown ⟨b,of,none⟩ ys.length xc news hx hnl ?_ ?_ h0 ?_ (by unfold maxLen;omega) hbase ?_
  ·intro q u hu;obtain⟨hq,rfl⟩:=hnq q u hu;have h1:=(hF (q/k) (hdiv q hq)).1 (q%k) (Nat.mod_lt _ hk);rw[add_nat,←h1];have:of+q/k*k+q%k=of+q:=by have:=Nat.div_add_mod q k;rw[Nat.mul_comm]at this;omega
   rw[this]
  ·intro u hu;obtain⟨q,hq,rfl⟩:=List.mem_iff_getElem.1 hu;obtain⟨hq2,he⟩:=hnq q _ (List.getElem?_eq_getElem hq);rw[he];exact hR _ _ (hF (q/k) (hdiv q hq2)).2 _ (Nat.mod_lt _ hk)
  ·have:(n+ys.length)*bytes≤1000000000*1000:=Nat.mul_le_mul hl hby;omega
  ·intro g cap w' h1 h2 h3 h4;refine h _ w' news h1 hnl (fun i y hy=> ?_) h2 (fun g' hg'=>by cases hg';exact h3);obtain⟨hi,rfl⟩:=List.getElem?_eq_some_iff.1 hy;refine⟨F i,(hF i hi).2,fun j hj=> ?_⟩;have hlt:i*k+j<ys.length*k:=by
    have:(i+1)*k≤ys.length*k:=Nat.mul_le_mul_right _ hi;rw[Nat.add_mul]at this;omega
   rw[List.getElem?_eq_getElem (by rw[hnl];exact hlt)];have h5:(i*k+j)/k=i:=by rw[Nat.mul_comm,Nat.mul_add_div hk,Nat.div_eq_of_lt hj];rfl
   have h6:(i*k+j)%k=j:=by rw[Nat.mul_comm,Nat.mul_add_mod,Nat.mod_eq_of_lt hj]
   simp [news,h5,h6]
theorem ownsRow_rslB {α:Type} {base:Nat} {e:TypeId} {k:Nat} {w:World} {v:Value} {xs:List Value} {R:World→(Nat→Value)→α→Prop} {l:List α} (h:w.ownsRow base e k v l.length xs) (hl9:l.length≤1000000000)
  (hx:∀i y,l[i]? =some y→∃C:Nat→Value,R w C y∧∀j,j<k→xs[i*k+j]? =some (C j)):RSlB (fun b=>v.ownBlock=some b) k R w v l:=by
 rcases h.2 with⟨rfl,h0⟩|⟨g,cap,cur,rfl,h1,h2,h3,h4,h5,h6⟩
 ·have:l= []:=List.length_eq_zero_iff.1 h0;subst this;exact⟨none,0,rfl,sm0, .inl rfl⟩
 ·refine⟨_,_,rfl,hl9, .inr ⟨g,0,rfl,rfl,fun i y hy=> ?_⟩⟩;obtain⟨C,hR,hC⟩:=hx i y hy;refine⟨C,fun j hj=> ?_,hR⟩;have h7:=hC j hj;have h8:i*k+j<xs.length:=(List.getElem?_eq_some_iff.1 h7).1;rw[h.1]at h8;rw[←h6,List.getElem?_take_of_lt h8,Array.getElem?_toList]at h7;rw[cell_of_block h2,Nat.zero_add];exact h7
def oddL:List Str:= [[],[120],[109,97,105,110],[102],[97],[105,102],[49,97],[112],[121],[103]]
theorem odd_raw:∀x∈oddL,NmG x:=by
 have h:oddL.all (fun x=>x.all (fun b=>decide (b.toNat<128))&&decide (x.length≤100))=true:=dc0;intro x hx;have:=List.all_eq_true.1 h x hx;simp only[Bool.and_eq_true,decide_eq_true_eq]at this;exact⟨asc_of this.1,this.2⟩
set_option maxRecDepth 100000 in
set_option maxHeartbeats 4000000 in
theorem odd26_any (sb:Nat) (W:World) (hs:Src sb W):
  Calls Tryz.prog 13 #[.pointer (some (sb,0))] W fun e w'=>(∃x:Str,e= .returned (S x)∧NmG x)∧SG sb W w':=by
 have⟨w1,hw1⟩:=xq (W.alloc (.cells (oddL.map S).toArray 9));have hr1:=aN0 hw1;have HSG:=hqz9 (show SG sb W w1 by rw[hw1];exact SG.start hs ba0);have hsl:=hs.lt;have HR1:=hqz9 hr1;have hwe:W.alloc (.cells #[.string ⟨#[]⟩, .string ⟨#[120]⟩, .string ⟨#[109,97,105,110]⟩, .string ⟨#[102]⟩, .string ⟨#[97]⟩, .string ⟨#[105,102]⟩, .string ⟨#[49,97]⟩, .string ⟨#[112]⟩, .string ⟨#[121]⟩, .string ⟨#[103]⟩] 9)=w1:=by rw[hw1];rfl
 clear hw1 hr1 hs;go_enter Tryz.func13,Tryz.ntmps13;go_wp2_with (go_at_call 12;refine(next25_any sb 10 w1 HSG.2 om0 om0).mono ?_;rintro e w2⟨⟨r,rfl,hr0,hr1⟩,hs2⟩;obtain⟨k,rfl⟩:=nat_of hr0;have HS2:=hqz9 (HSG.out.trans hs2);obtain⟨x,hx⟩:∃x,oddL[k]? =some x:=⟨_,List.getElem?_eq_getElem (show k<oddL.length from(by omega:k<10))⟩;have hck:w2.cell? (W,k)=some (S x):=(by rw[(hs2.row HR1.out om0).cell k,List.getElem?_map,hx];rfl);have HX:=hqz9 (odd_raw x (List.mem_of_getElem? hx));clear hs2 hx hr0)
 go_ret;exact⟨⟨x,rfl,HX⟩,HS2⟩
end
section
open Go.RowKit Go.Shelf
theorem OdF.asc {f:LF} (h:OdF f):AscF f:=⟨h.name.1,fun x hx=>(h.params x hx).1,fun x hx=>(h.locals x hx).1,fun x hx=>(h.body x hx).1⟩
theorem NmG.le {x:Str} (h:NmG x):x.length≤1000000:=by have:=h.2;omega
theorem OdF.shrt {f:LF} (h:OdF f):ShortF f:=⟨h.name.le,fun x hx=>(h.params x hx).le,fun x hx=>(h.locals x hx).le,fun x hx=>(h.body x hx).2.1⟩
theorem OdP.ascs {p:LP} (h:OdP p):AscP p:=⟨fun a ha=>(h.arrays a ha).1,fun f hf=>(h.funcs f hf).asc⟩
theorem OdP.shrts {p:LP} (h:OdP p):ShortP p:=⟨fun a ha=>(h.arrays a ha).le,fun f hf=>(h.funcs f hf).shrt⟩
def lnF (f:LF):Nat:=2+f.locals.length+linL f.body
def lnS:List LF→Nat
 |[]=>0
 |f::l=>lnF f+lnS l
def hdr (p:LP) (k:Nat):Nat:=1+p.arrays.length+lnS (p.funcs.take k)
noncomputable def lineP (p:LP) (fn st:Int):Int:=match bP (okP p)&&decide (0≤fn),p.funcs[fn.toNat]? with
 |true,some f=>fnd (offL f.body (hdr p fn.toNat+1+f.locals.length)) 0 st (hdr p fn.toNat)
 |_,_=>1
theorem lineP_no (p:LP) (fn st:Int) (h:bP (okP p)=false∨fn<0∨(p.funcs.length:Int)≤fn):lineP p fn st=1:=by
 unfold lineP
 rcases h with h|h|h
 ·rw[h];rfl
 ·rw[decide_eq_false (show¬0≤fn by omega),Bool.and_false]
 ·rw[List.getElem?_eq_none (by omega)]
  split
  ·rename_i h2;cases h2
  ·rfl
theorem lineP_yes (p:LP) (k:Nat) (st:Int) (h:bP (okP p)=true) (hk:k<p.funcs.length):lineP p k st=fnd (offL p.funcs[k].body (hdr p k+1+p.funcs[k].locals.length)) 0 st (hdr p k):=by
 unfold lineP
 rw[h,decide_eq_true (show (0:Int)≤(k:Int) by omega),show ((k:Int)).toNat=k from rfl,List.getElem?_eq_getElem hk]
 rfl
theorem body_tot {f:LF} (h:OdF f) (hk:okF f):totL f.body≤6400:=by
 have h1:=(body_iff f.body).1 hk.2.2.2.2
 have h2:=totL_le (b:=640) f.body fun x hx=>by
  have h3:=(h.body x hx).2.2
  have h4:=dep_far x 40 ((okS_iff 40 x).1 (hk.2.2.2.2 x hx)).1
  omega
 have:=Nat.mul_le_mul_right 640 h.bl
 omega
theorem body_fine {f:LF} (hk:okF f):fineL f.body:=well_fineL _ ((body_iff f.body).1 hk.2.2.2.2).2
theorem lnF_le {f:LF} (h:OdF f) (hk:okF f):lnF f≤20202:=by
 have h1:=body_tot h hk;have h2:=linL_le f.body;have h3:=h.few
 unfold lnF;omega
theorem lnS_app:∀(a b:List LF),lnS (a++b)=lnS a+lnS b
 |[],b=>by simp [lnS]
 |s::a,b=>by
  have:=lnS_app a b
  rw[List.cons_append,lnS,lnS,this]
  omega
theorem lnS_le:∀(l:List LF),(∀f∈l,lnF f≤20202)→lnS l≤20202*l.length
 |[],_=>by simp [lnS]
 |s::l,h=>by
  have h1:=h s (List.mem_cons_self ..);have h2:=lnS_le l fun x hx=>h x (List.mem_cons_of_mem _ hx)
  rw[lnS,List.length_cons]
  omega
theorem hdr_step (p:LP) (k:Nat) (h:k<p.funcs.length):hdr p (k+1)=hdr p k+lnF p.funcs[k]:=by
 unfold hdr
 rw[List.take_succ_eq_append_getElem h,lnS_app]
 simp only[lnS]
 omega
theorem hdr_le {p:LP} (h:OdP p) (hk:okP p) (k:Nat):hdr p k≤20300000:=by
 have h1:=lnS_le (p.funcs.take k) fun f hf=>lnF_le (h.funcs f (List.mem_of_mem_take hf)) (hk.funcs f (List.mem_of_mem_take hf))
 have h2:=h.few
 rw[List.length_take]at h1
 have h3:20202*min k p.funcs.length≤20202*1000:=Nat.mul_le_mul_left _ (by omega)
 unfold hdr
 omega
theorem plc_neg (os:List Nat) (k:Int):plc os k<0↔¬(0≤k∧k<os.length):=by
 unfold plc
 split
 ·rename_i h
  exact⟨fun h1=>by omega,fun h1=>absurd h h1⟩
 ·rename_i h
  exact⟨fun _=>h,fun _=>by omega⟩
theorem fnd_plc (l:List LS) (b:Nat) (st n:Int):fnd (offL l b) 0 st n=if plc (offL l 0) st<0 then n else b+plc (offL l 0) st:=by
 by_cases h:0≤st∧st<(offL l 0).length
 ·rw[if_neg (fun h1=>(plc_neg _ _).1 h1 h)]
  have hb:=offL_add l 0 b
  rw[Nat.zero_add]at hb
  unfold fnd plc
  rw[if_pos h,if_pos (by rw[offL_len l b];omega),hb,List.getElem?_map,show (st-0).toNat=st.toNat by omega]
  have h2:st.toNat<(offL l 0).length:=by omega
  rw[List.getElem?_eq_getElem h2]
  simp only[Option.map_some,Option.getD_some]
  omega
 ·rw[if_pos ((plc_neg _ _).2 h)]
  unfold fnd
  rw[if_neg (by rw[offL_len l b];omega)]
end
end Go.Proofs.YtngglbakkedaiaaGreatDoor
