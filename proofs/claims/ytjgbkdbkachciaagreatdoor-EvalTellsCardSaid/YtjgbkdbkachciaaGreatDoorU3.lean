import Derived.Test.YtjgbkdbkachciaaGreatDoorU2
set_option linter.all false
namespace Go.Proofs.YtjgbkdbkachciaaGreatDoor
set_option maxRecDepth 100000
set_option maxHeartbeats 16000000
section
open Go.RowKit Go.Shelf
attribute [local go_sem] Oper.semAt_some
theorem agd (w:World):CR 117 #[S []] w (.bool false):=by
 go_enter Tryz.func117,Tryz.ntmps117;go_wp2;go_ret;exact⟨rfl,Below.refl _ _⟩
structure ajz where
 named:Bool
 args:Nat
 thn:Bool
 more:Bool
def cR (k:Int):ajz:=
 if k=1 then⟨true,1,false,false⟩else if k=2 then⟨true,2,false,false⟩else if k=3 then⟨false,1,true,true⟩else if k=4 then⟨false,1,true,false⟩
 else if k=5\/k=6 then⟨false,0,false,false⟩else⟨false,1,false,false⟩
abbrev qO:Array Value:= #[.bool false, .int .i64 0, .bool false, .bool false]
theorem JD (k:Int) (h:1<=k/\k<=10) (w:World):CR 179 #[I k] w (.tuple #[.agg #[.bool (cR k).named,I (cR k).args, .bool (cR k).thn, .bool (cR k).more], .bool true]):=by
 rcases(by omega:k=1\/k=2\/k=3\/k=4\/k=5\/k=6\/k=7\/k=8\/k=9\/k=10)with rfl|rfl|rfl|rfl|rfl|rfl|rfl|rfl|rfl|rfl
 all_goals
  clear h;go_enter Tryz.func179,Tryz.ntmps179;go_wp2_with (first|(refine sr 197 (.tmp 2) (.tmp 7) w qO hn0 ?_)|(refine sr 197 (.tmp 2) (.tmp 10) w qO hn0 ?_)|(refine sr 197 (.tmp 2) (.tmp 13) w qO hn0 ?_)|(refine sr 197 (.tmp 2) (.tmp 16) w qO hn0 ?_)|(refine sr 197 (.tmp 2) (.tmp 20) w qO hn0 ?_)|(refine sr 197 (.tmp 2) (.tmp 26) w qO hn0 ?_))
  refine bodyPost_ret (BW rfl _ _ w 197 _ (0,0) _ rfl (setRow_heap _ _ _ _ _ _ hn0) Tryz.underlying197 rfl aL) rfl ?_;exact⟨rfl,(cm w _).grown bJ aH u_⟩
def mC:Nat->LS->Prop
 |0,_=>False
 |d+1,s=>((1<=s.kind/\s.kind<=10)/\(s.kind=10->∀a∈s.args,a.kind=5))/\s.args.length=(cR s.kind).args/\((cR s.kind).thn=false->s.thn= [])/\((cR s.kind).more=false->s.els= [])/\
  ((cR s.kind).named=true->eH s.name/\isName s.name=true)/\((cR s.kind).named=false->s.name= [])/\(∀x∈s.args,ij 40 x)/\(∀x∈s.thn,mC d x)/\(∀x∈s.els,mC d x)
abbrev sV (s:LS) (av tv ev:Value):Value:= .agg #[I s.kind,S s.name,av,tv,ev]
abbrev apx (s:LS) (av tv ev:Value):List Value:= [I s.kind,S s.name,av,tv,ev]
theorem RS.ev {d:Nat} {B:Nat->Prop} {W:World} {C:Nat->Value} {s:LS} (h:RS d B W C s):sO C=sV s (C 2) (C 3) (C 4)/\AX B W (C 2) s.args/\SX B W (C 3) s.thn/\SX B W (C 4) s.els:=by
 cases d with
 |zero=>exact h.elim
 |succ d=>
  obtain⟨h0,h1,h2,h3,h4⟩:=h;exact⟨by simp only[sO,sV];rw[h0,h1],h2,⟨d,h3⟩,⟨d,h4⟩⟩
theorem SX.below {B:Nat->Prop} {w w':World} {v:Value} {l:List LS} (h:SX B w v l) (hb:Below w w w'):SX B w' v l:=h.grown (bX hb none) aJ
theorem RS.below {d:Nat} {B:Nat->Prop} {w w':World} {C:Nat->Value} {s:LS} (hb:Below w w w') (h:RS d B w C s):RS d B w' C s:=h.grown d (bX hb none) aJ
def ao9 (l:List LS) (most:Int) (v:Value) (B:Nat->Prop):Prop:=∀W,SX B W v l->CR 78 #[v,I most] W (.bool true)
end
end Go.Proofs.YtjgbkdbkachciaaGreatDoor
