/-
  Proved: for every three lists of numbers and every number, EvalTells returns true and leaves its arguments as they were. The listed package variables begin as the program's text lays them (the card's tie). No other condition.
-/
import Derived.Test.YtjgbkdbkachciaaGreatDoorG6
import Derived.Test.YtjgbkdbkachciaaGreatDoorJ7
import Derived.Test.YtjgbkdbkachciaaGreatDoorCards
import Derived.Test.YtjgbkdbkachciaaGreatDoorTie
import Derived.OpenShut
import Derived.ChangeOld
import Derived.Lay
import Derived.LaidMore
import Derived.LaidOnce
import Derived.Stop.Joined
import Derived.SevenTiedAt
set_option linter.all false
namespace Go.Proofs.YtjgbkdbkachciaaGreatDoor
set_option maxRecDepth 100000
set_option maxHeartbeats 16000000
section
open Go.ChangeShapes Go.WideShapes Go.ChangeAt Go.RowKit
theorem own:ownKnob Tryz.prog.godebug=none:=aL
theorem laidOut:laidOutB Tryz.prog=true:=aL
theorem c3:Tryz.prog.cellsOf 3=1:=aL
theorem b3:Tryz.prog.bytesOf 3=8:=aL
theorem YO {x:Int} (h:(Lit.int .i64 x).wf=true):Bh x:=by
 have e1:IntKind.min .i64= -9223372036854775808:=aQ;have e2:IntKind.max .i64=9223372036854775807:=aQ;simp only[Lit.wf,e1,e2,Bool.and_eq_true,decide_eq_true_eq]at h;exact h
theorem Rk {H:Type} {enc:TypeId×Value->H} {w:World} {sp:Nat->Bool} {held:Bool} {v:Value} {d:DataW H} {ps:List MemPlace} {n:Nat} (h:DataW.trod enc Tryz.prog w 0 sp held n 22 [v]=some (d,ps)) (hs:xP Tryz.prog 22 d):∃l:List Int,mA w v l:=
 Ej.air aQ Tryz.underlying22 c3 (by rw[b3];omega) (R:=yU) (λn cs d ps hl h _=>by
  obtain⟨x,rfl, -,hw⟩:=DataW.trod_int Tryz.underlying3 h
  exact⟨x,rfl,YO hw⟩) h hs
theorem Rb {H:Type} {enc:TypeId×Value->H} {w:World} {sp:Nat->Bool} {held:Bool} {v:Value} {d:DataW H} {ps:List MemPlace} {n:Nat} (h:DataW.trod enc Tryz.prog w 0 sp held n 22 [v]=some (d,ps)) (l:List Int) (hl:mA w v l):∃a c,v= .slice a l.length c/\l.length<=c:=by
 obtain⟨a,c,hv,_⟩:=hl;rcases Go.Deep.open_slice Tryz.underlying22 h with⟨h1,_⟩|⟨a',len,cap,m,k,D,Pl,h1,_,h2,_⟩
 ·simp only[List.cons.injEq,and_true]at h1;rw[hv]at h1;obtain⟨-,h3,h4⟩:=Value.slice.inj h1;exact⟨a,c,hv,aG⟩
 ·simp only[List.cons.injEq,and_true]at h1;rw[hv]at h1;obtain⟨-,h3,h4⟩:=Value.slice.inj h1;exact⟨a,c,hv,aG⟩
theorem jl.ait {W:World} {v:Value} {l:List Int} (h:mA W v l) (hc:∃a c,v= .slice a l.length c/\l.length<=c):jl (·<W.heap.size) W v l:=by
 refine⟨?_,hc⟩;obtain⟨a,c,hv,hm,h⟩:=h;refine⟨a,c,hv,hm, ?_⟩;rcases h with h|⟨b,o,ha,h⟩
 ·exact .inl h
 cases l with
 |nil=>exact .inl rfl
 |cons y l=>
  refine .inr ⟨b,o,ha, ?_,λi x hx=> ?_⟩
  ·obtain⟨C,hC,_⟩:=h 0 y rfl;exact World.block_lt_of_cell? W _ (hC 0 aG)
  ·obtain⟨C,hC,hr⟩:=h i x hx;exact⟨C,hC,hr.1⟩
theorem afS (os:Os):(World.laidAll Tryz.prog os Rows.evalTellsRow.laid).Shaped Tryz.prog:=World.shaped_of_ZipB aL aL
theorem agC (W:World):laidMetH Tryz.prog Rows.evalTellsRow.laid W=laidMet Tryz.prog Rows.evalTellsRow.laid W:=MakeChecks.laidMetH_plain _ _ _ aL
theorem ahX (os:Os) (args:Array Value):laidMetH Tryz.prog Rows.evalTellsRow.laid ((World.laidAll Tryz.prog os Rows.evalTellsRow.laid).forCall (λ_ _=>0) ⟨#[],args,[]⟩).memory:=by
 rw[agC];exact laidMet_laidAll _ aL aL
theorem aeR (os:Os) (started:os.Started) (H:Type) (enc:TypeId×Value->H):
  ReturnsInHanded {} Tryz.checked os 3 .any (λw args=>(Rows.evalTellsSpec.pre enc Tryz.prog Tryz.f3 [] false w args/\laidMetH Tryz.prog Rows.evalTellsRow.laid w)/\sizedMet enc Tryz.prog Tryz.f3 (OpenSpec.ofChange Rows.evalTellsSpec) false w args)
   (Rows.evalTellsSpec.post enc Tryz.prog Tryz.f3 false true false false):=by
 refine returnsInHanded_of_change_and (C:=Tryz.checked) (X:=λw _=>laidMetH Tryz.prog Rows.evalTellsRow.laid w) (λ_ _ _ hh h=>h.of_heap hh) own started aL Tryz.func3
  (ChangeSpec.witness_shaped (enc:=enc) (C:=Tryz.checked) (os:=os) (X:=λw _=>laidMetH Tryz.prog Rows.evalTellsRow.laid w) false (World.laidAll Tryz.prog os Rows.evalTellsRow.laid) #[.slice none 0 0, .slice none 0 0, .slice none 0 0, .int .i64 0] 3 (World.laidAll_os _ _ _)
   (afS os) aL aL aL (ahX os _)) ?_
 intro W base args ds gs before aab hW _ hsz _ _;have hval:∀(j:Nat) t v,Tryz.f3.params[j]? =some t->args[j]? =some v->Value.okWide Tryz.prog W .any base t v:=aab;have hW':=hW;obtain⟨p,q,hA0,hV,rfl,hfz,hnd⟩:=hW;have hA:DataW.TrodAll enc Tryz.prog W 0 (λ_=>true) true Tryz.f3.params.toList args.toList ds p:=hA0;have hsz':(DataW.weightsEach Tryz.prog (Tryz.f3.params.toList++Rows.evalTellsSpec.plain.varTypes Tryz.prog) (ds++gs)).all (·<=reachBytes)=true:=hsz;rw[Tryz.params3]at hA hval hsz';obtain⟨v0,vs0,d0,ds0,p0,q0,hargs,rfl,rfl,h0,r0⟩:=trodAll_cons hA;obtain⟨v1,vs1,d1,ds1,p1,q1,rfl,rfl,rfl,h1,r1⟩:=trodAll_cons r0;obtain⟨v2,vs2,d2,ds2,p2,q2,rfl,rfl,rfl,h2,r2⟩:=trodAll_cons r1;obtain⟨v3,vs3,d3,ds3,p3,q3,rfl,rfl,rfl,h3,r3⟩:=trodAll_cons r2;obtain⟨rfl,rfl,rfl⟩:=trodAll_nil r3;obtain rfl:args= #[v0,v1,v2,v3]:=by cases args;simp_all
 obtain⟨rfl,rfl⟩:=trodVars_none hV;have s0:xP Tryz.prog 22 d0:=xP.RM hsz' (j:=0) rfl rfl;have s1:xP Tryz.prog 22 d1:=xP.RM hsz' (j:=1) rfl rfl;have s2:xP Tryz.prog 22 d2:=xP.RM hsz' (j:=2) rfl rfl;have k0:=h0;have k1:=h1;have k2:=h2;have lt0:∀x∈p0,x.block<W.heap.size:=by obtain⟨m,hm⟩:=k0;exact DataW.trod_lt m _ _ _ hm
 have lt2:∀x∈p2,x.block<W.heap.size:=by obtain⟨m,hm⟩:=k2;exact DataW.trod_lt m _ _ _ hm
 have lt1:∀x∈p1,x.block<W.heap.size:=by obtain⟨m,hm⟩:=k1;exact DataW.trod_lt m _ _ _ hm
 obtain⟨ls,hl,hc⟩:∃ls:List Int,mA W v0 ls/\∃a c,v0= .slice a ls.length c/\ls.length<=c:=by
  obtain⟨a,l,c,rfl⟩:=okWide_slice Tryz.underlying22 (hval 0 22 v0 rfl rfl);obtain⟨fuel,hf⟩:=h0;obtain⟨ls,hl⟩:=Rk (by simpa [Value.cells]using hf) s0;exact⟨ls,hl,Rb (by simpa [Value.cells]using hf) ls hl⟩
 obtain⟨li,nY,hc1⟩:∃ls:List Int,mA W v1 ls/\∃a c,v1= .slice a ls.length c/\ls.length<=c:=by
  obtain⟨a,l,c,rfl⟩:=okWide_slice Tryz.underlying22 (hval 1 22 v1 rfl rfl);obtain⟨fuel,hf⟩:=h1;obtain⟨ls,hl⟩:=Rk (by simpa [Value.cells]using hf) s1;exact⟨ls,hl,Rb (by simpa [Value.cells]using hf) ls hl⟩
 obtain⟨lj,hl2,hc2⟩:∃ls:List Int,mA W v2 ls/\∃a c,v2= .slice a ls.length c/\ls.length<=c:=by
  obtain⟨a,l,c,rfl⟩:=okWide_slice Tryz.underlying22 (hval 2 22 v2 rfl rfl);obtain⟨fuel,hf⟩:=h2;obtain⟨ls,hl⟩:=Rk (by simpa [Value.cells]using hf) s2;exact⟨ls,hl,Rb (by simpa [Value.cells]using hf) ls hl⟩
 obtain⟨a3,rfl,rfl,rfl,w3⟩:=open_int Tryz.underlying3 (hval 3 3 v3 rfl rfl) h3;clear hA0 aab hsz;refine(ae5 W v0 v1 v2 ls li lj hl hc nY hc1 (jl.ait hl2 hc2) a3 (YO w3)).mono λe W' ⟨he,QB⟩=> ?_
 subst he;exact⟨_,rfl,_,_,_,[],_,[],hW',trodAll_mk1 (shut_bool Tryz.underlying4 _),(trodAll_cons_mk (Below.trod laidOut aL (of_decide_eq_true aL) k0 QB lt0) (trodAll_cons_mk (Below.trod laidOut aL (of_decide_eq_true aL) k1 QB lt1) (trodAll_cons_mk (Below.trod laidOut aL (of_decide_eq_true aL) k2 QB lt2) (trodAll_cons_mk (shut_int Tryz.underlying3 w3) trodAll_mk0)))),rfl,QB.frame _,s8⟩
theorem aeX:Rows.EvalTellsSaid:=
 OpenClaim.holds_of_wide 3 Tryz.f3 rfl rfl rfl rfl rfl rfl rfl ⟨rfl,rfl,rfl,rfl,rfl⟩ rfl rfl rfl rfl rfl Gm Tryz.func3 ah7
  (of_decide_eq_true Gm) (by unfold Func.isWrapper;first|(rw[if_pos CN];(as_aux_lemma=>kernel_rfl))|(rw[if_neg CN];exact⟨rfl,rfl⟩))
  (λos started H enc _=>aeR os started H enc)
theorem evalTells_proved:Rows.EvalTellsCardSaid:=
 Claim7.holds_tied_plain_at .later [] [.data, .data, .data, .data, .sentinel, .sentinel, .pinned] true (true, "70324da7af6a19439e5d14b18b35f90094daa3d117000c1d1d15966cf5d43f15") true
  aeX aJ Gm aJ evalTells_row_tie rfl ⟨rfl,rfl⟩ Gm rfl
  (λf fn hf hfn=>by
   obtain rfl : f = 3 := Option.some.inj ((show Tryz.prog.funcNamed "counterproof/counterprooflaw06.EvalTells" = some 3 by as_aux_lemma => kernel_rfl).symm.trans hf) |>.symm
   obtain rfl:fn=Tryz.f3:=(Option.some.inj (Tryz.func3.symm.trans hfn)).symm
   exact⟨Gm,λj t ht=>by
    rw[Tryz.params3]at ht
    have hm:t∈ [22,22,22,3]:=by simpa using Array.mem_of_getElem? ht
    have hall:([22,22,22,3].all λu=> !Tryz.prog.wantsStandIn u)=true:=Gm
    exact(show Tryz.prog.wantsStandIn t=false by simpa using List.all_eq_true.1 hall t hm)⟩)
  Gm
end
end Go.Proofs.YtjgbkdbkachciaaGreatDoor
