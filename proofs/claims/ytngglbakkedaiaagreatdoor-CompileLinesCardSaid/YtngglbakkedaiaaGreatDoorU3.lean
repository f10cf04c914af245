import Derived.Test.YtngglbakkedaiaaGreatDoorU2
set_option linter.all false
namespace Go.Proofs.YtngglbakkedaiaaGreatDoor
open Go.RowKit Go.Shelf
attribute [local go_sem] Oper.semAt_some
set_option maxRecDepth 100000 in
set_option maxHeartbeats 2000000 in
theorem name_empty (w:World):CR 59 #[S []] w (.bool false):=by
 go_enter Tryz.func59,Tryz.ntmps59;go_wp2;go_ret;exact⟨rfl,Below.refl _ _⟩
structure FormL where
 named:Bool
 args:Nat
 thn:Bool
 more:Bool
def formL (k:Int):FormL:=
 if k=1 then⟨true,1,false,false⟩else if k=2 then⟨true,2,false,false⟩else if k=3 then⟨false,1,true,true⟩else if k=4 then⟨false,1,true,false⟩
 else if k=5∨k=6 then⟨false,0,false,false⟩else⟨false,1,false,false⟩
abbrev frZ:Array Value:= #[.bool false, .int .i64 0, .bool false, .bool false]
set_option maxRecDepth 100000 in
set_option maxHeartbeats 2000000 in
theorem formOf_yes (k:Int) (h:1≤k∧k≤10) (w:World):CR 101 #[I k] w (.tuple #[.agg #[.bool (formL k).named,I (formL k).args, .bool (formL k).thn, .bool (formL k).more], .bool true]):=by
 rcases(by omega:k=1∨k=2∨k=3∨k=4∨k=5∨k=6∨k=7∨k=8∨k=9∨k=10)with rfl|rfl|rfl|rfl|rfl|rfl|rfl|rfl|rfl|rfl
 all_goals
  clear h;go_enter Tryz.func101,Tryz.ntmps101;go_wp2_with (first|(refine sr 170 (.tmp 2) (.tmp 7) w frZ hn0 ?_)|(refine sr 170 (.tmp 2) (.tmp 10) w frZ hn0 ?_)|(refine sr 170 (.tmp 2) (.tmp 13) w frZ hn0 ?_)|(refine sr 170 (.tmp 2) (.tmp 16) w frZ hn0 ?_)|(refine sr 170 (.tmp 2) (.tmp 20) w frZ hn0 ?_)|(refine sr 170 (.tmp 2) (.tmp 26) w frZ hn0 ?_))
  refine bodyPost_ret (results_ct rfl _ _ w 170 _ (0,0) _ rfl (setRow_heap _ _ _ _ _ _ hn0) Tryz.underlying170 rfl kr0) rfl ?_;exact⟨rfl,(below_a1 w _).grown setRow_grown sm0 sz0⟩
def okS:Nat→LS→Prop
 |0,_=>False
 |d+1,s=>((1≤s.kind∧s.kind≤10)∧(s.kind=10→∀a∈s.args,a.kind=5))∧s.args.length=(formL s.kind).args∧((formL s.kind).thn=false→s.thn= [])∧((formL s.kind).more=false→s.els= [])∧
  ((formL s.kind).named=true→Asc s.name∧isName s.name=true)∧((formL s.kind).named=false→s.name= [])∧(∀x∈s.args,okE 40 x)∧(∀x∈s.thn,okS d x)∧(∀x∈s.els,okS d x)
abbrev sV (s:LS) (av tv ev:Value):Value:= .agg #[I s.kind,S s.name,av,tv,ev]
theorem RS.ev {d:Nat} {B:Nat→Prop} {W:World} {C:Nat→Value} {s:LS} (h:RS d B W C s):agg5 C=sV s (C 2) (C 3) (C 4)∧AX B W (C 2) s.args∧SX B W (C 3) s.thn∧SX B W (C 4) s.els:=by
 cases d with
 |zero=>exact h.elim
 |succ d=>
  obtain⟨h0,h1,h2,h3,h4⟩:=h;exact⟨by simp only[agg5,sV];rw[h0,h1],h2,⟨d,h3⟩,⟨d,h4⟩⟩
theorem SX.below {B:Nat→Prop} {w w':World} {v:Value} {l:List LS} (h:SX B w v l) (hb:Below w w w'):SX B w' v l:=h.grown (below_grown hb none) nx0
theorem RS.below {d:Nat} {B:Nat→Prop} {w w':World} {C:Nat→Value} {s:LS} (hb:Below w w w') (h:RS d B w C s):RS d B w' C s:=h.grown d (below_grown hb none) nx0
end Go.Proofs.YtngglbakkedaiaaGreatDoor
