import Derived.Test.YtngglbakkedaiaaGreatDoorEC
import Derived.Orders
import Derived.Laws.Sem
set_option linter.all false
namespace Go.Proofs.YtngglbakkedaiaaGreatDoor
section
def flatF:Nat→Value→Bool
 |0,_=>false
 |n+1,v=>match v with
  |.bool _=>true
  |.int _ _=>true
  |.float _ _=>true
  |.complex _ _ _=>true
  |.string _=>true
  |.pointer none=>true
  |.slice none _ _=>true
  |.map none=>true
  |.nilFunc=>true
  |.nilIface=>true
  |.iface _ v=>flatF n v
  |.agg c=>c.toList.all (flatF n)
  |.tuple c=>c.toList.all (flatF n)
  |.func (.func _) f c=>f.toList.isEmpty&&c.toList.isEmpty
  |_=>false
def flat (v:Value):Bool:=flatF 12 v
theorem flatF_VR {ρ:PM}:∀(n:Nat) (v:Value),flatF n v=true→VR ρ v v
 |0,_,h=>by cases h
 |n+1,v,h=>by
  have arr:∀(c:Array Value),c.toList.all (flatF n)=true→∀(i:Nat) v v',c[i]? =some v→c[i]? =some v'→VR ρ v v':=fun c hc i v v' h1 h2=>by
   rw[h1]at h2;cases h2
   refine flatF_VR n v (List.all_eq_true.1 hc v ?_)
   have:=Array.mem_of_getElem? h1
   exact Array.mem_toList_iff.2 this
  cases v with
  |bool=>exact .bool _
  |int=>exact .int ..
  |float=>exact .float ..
  |complex=>exact .complex ..
  |string=>exact .string _
  |pointer a=>cases a with
   |none=>exact .ptr0
   |some=>cases h
  |slice a=>cases a with
   |none=>exact .sl0 ..
   |some=>cases h
  |map a=>cases a with
   |none=>exact .map0
   |some=>cases h
  |chan=>cases h
  |func f a b=>
   cases f with
   |func f=>
    simp only[flatF,Bool.and_eq_true,List.isEmpty_iff]at h
    obtain⟨h1,h2⟩:=h
    obtain⟨a⟩:=a;obtain⟨b⟩:=b
    simp only at h1 h2;subst h1;subst h2
    exact .func (.func f) rfl (fun i v v' h=>by simp at h) rfl (fun i v v' h=>by simp at h)
   |method=>cases h
   |methodOf=>cases h
   |via=>cases h
   |yield=>cases h
  |nilFunc=>exact .nilFunc
  |iface t v=>exact .iface t (flatF_VR n v h)
  |nilIface=>exact .nilIface
  |agg c=>exact .agg rfl (arr c h)
  |tuple c=>exact .tuple rfl (arr c h)
theorem flat_VR {ρ:PM} {v:Value} (h:flat v=true):VR ρ v v:=flatF_VR _ _ h
theorem flatF_eq {ρ:PM}:∀(n:Nat) (v v':Value),flatF n v=true→VR ρ v v'→v'=v
 |0,_,_,h,_=>by cases h
 |n+1,v,v',h,hv=>by
  have arr:∀(c c':Array Value),c.toList.all (flatF n)=true→c.size=c'.size→(∀(i:Nat) v v',c[i]? =some v→c'[i]? =some v'→VR ρ v v')→c'=c:=fun c c' hc hs hx=>by
   refine Array.ext hs.symm fun i h1 h2=>?_
   refine flatF_eq n _ _ (List.all_eq_true.1 hc _ ?_) (hx i _ _ (Array.getElem?_eq_getElem h2) (Array.getElem?_eq_getElem h1))
   exact Array.mem_toList_iff.2 (Array.getElem_mem h2)
  cases hv with
  |bool=>rfl
  |int=>rfl
  |float=>rfl
  |complex=>rfl
  |string=>rfl
  |ptr0=>rfl
  |ptr=>cases h
  |sl0=>rfl
  |sl=>cases h
  |map0=>rfl
  |map=>cases h
  |func h0 h1 h2 h3 h4=>
   cases h0 with
   |func f=>
    rename_i f1 f1' c1 c1'
    simp only[flatF,Bool.and_eq_true,List.isEmpty_iff]at h
    obtain⟨k1,k2⟩:=h
    obtain⟨f1⟩:=f1;obtain⟨c1⟩:=c1;obtain⟨f1'⟩:=f1';obtain⟨c1'⟩:=c1'
    simp only at k1 k2;subst k1;subst k2
    simp only[List.size_toArray,List.length_nil]at h1 h3
    rw[List.length_eq_zero_iff.1 h1.symm,List.length_eq_zero_iff.1 h3.symm]
   |method=>cases h
   |methodOf=>cases h
   |via=>cases h
   |yield=>cases h
  |nilFunc=>rfl
  |iface t hv=>rw[flatF_eq n _ _ h hv]
  |nilIface=>rfl
  |agg h1 h2=>rw[arr _ _ h h1 h2]
  |tuple h1 h2=>rw[arr _ _ h h1 h2]
theorem flat_eq {ρ:PM} {v v':Value} (h:flat v=true) (hv:VR ρ v v'):v'=v:=flatF_eq _ _ _ h hv
theorem AV.refl {ρ:PM} {c:Array Value} (h:c.toList.all flat=true):AV ρ c c:=⟨rfl,fun i v v' h1 h2=>by
 rw[h1]at h2;cases h2
 exact flat_VR (List.all_eq_true.1 h v (Array.mem_toList_iff.2 (Array.mem_of_getElem? h1)))⟩
theorem AV.push {ρ:PM} {c c':Array Value} (h:AV ρ c c') {v v':Value} (hv:VR ρ v v'):AV ρ (c.push v) (c'.push v'):=⟨by simp [h.1],fun i u u' h1 h2=>by
 rw[Array.getElem?_push]at h1 h2
 rw[←h.1]at h2
 split at h1
 ·rename_i e;rw[if_pos e]at h2;cases h1;cases h2;exact hv
 ·rename_i e;rw[if_neg e]at h2;exact h.2 i u u' h1 h2⟩
theorem AV.set {ρ:PM} {c c':Array Value} (h:AV ρ c c') (k:Nat) {v v':Value} (hv:VR ρ v v'):AV ρ (c.setIfInBounds k v) (c'.setIfInBounds k v'):=⟨by simp [h.1],fun i u u' h1 h2=>by
 rw[Array.getElem?_setIfInBounds]at h1 h2
 split at h1
 ·rename_i e;rw[if_pos e]at h2;rw[←h.1]at h2
  split at h1
  ·rename_i e2;rw[if_pos e2]at h2;cases h1;cases h2;exact hv
  ·cases h1
 ·rename_i e;rw[if_neg e]at h2;exact h.2 i u u' h1 h2⟩
theorem AV.append {ρ:PM} {c c' d d':Array Value} (h:AV ρ c c') (k:AV ρ d d'):AV ρ (c++d) (c'++d'):=⟨by simp [h.1,k.1],fun i u u' h1 h2=>by
 rw[Array.getElem?_append]at h1 h2
 rw[←h.1]at h2
 split at h1
 ·rename_i e;rw[if_pos e]at h2;exact h.2 i u u' h1 h2
 ·rename_i e;rw[if_neg e]at h2;exact k.2 _ u u' h1 h2⟩
theorem AV.extract {ρ:PM} {c c':Array Value} (h:AV ρ c c') (i j:Nat):AV ρ (c.extract i j) (c'.extract i j):=⟨by simp [h.1],fun k u u' h1 h2=>by
 rw[Array.getElem?_extract]at h1 h2
 rw[←h.1]at h2
 split at h1
 ·rename_i e;rw[if_pos e]at h2;exact h.2 _ u u' h1 h2
 ·cases h1⟩
theorem AV.get {ρ:PM} {c c':Array Value} (h:AV ρ c c') (i:Nat):(c[i]? =none∧c'[i]? =none)∨∃v v',c[i]? =some v∧c'[i]? =some v'∧VR ρ v v':=by
 by_cases e:i<c.size
 ·refine .inr ⟨c[i],c'[i]'(h.1▸e),Array.getElem?_eq_getElem _,Array.getElem?_eq_getElem _,?_⟩
  exact h.2 i _ _ (Array.getElem?_eq_getElem _) (Array.getElem?_eq_getElem _)
 ·exact .inl ⟨Array.getElem?_eq_none (by omega),Array.getElem?_eq_none (by have:=h.1;omega)⟩
theorem VR.cells {ρ:PM} {v v':Value} (h:VR ρ v v'):AV ρ v.cells v'.cells:=by
 have one:∀{v v':Value},VR ρ v v'→AV ρ #[v] #[v']:=fun h=>⟨rfl,fun i u u' h1 h2=>by
  cases i with
  |zero=>simp at h1 h2;subst h1;subst h2;exact h
  |succ=>simp at h1⟩
 cases h with
 |agg h1 h2=>exact⟨h1,h2⟩
 |bool=>exact one (.bool _)
 |int=>exact one (.int ..)
 |float=>exact one (.float ..)
 |complex=>exact one (.complex ..)
 |string=>exact one (.string _)
 |ptr0=>exact one .ptr0
 |ptr h=>exact one (.ptr h)
 |sl0=>exact one (.sl0 ..)
 |sl h hc=>exact one (.sl h hc)
 |map0=>exact one .map0
 |map h=>exact one (.map h)
 |func h0 h1 h2 h3 h4=>exact one (.func h0 h1 h2 h3 h4)
 |nilFunc=>exact one .nilFunc
 |iface t h=>exact one (.iface t h)
 |nilIface=>exact one .nilIface
 |tuple h1 h2=>exact one (.tuple h1 h2)
section
variable {P:Program} {ρ:PM}
abbrev SE (P:Program) (ρ:PM) {α:Type} (s s':Sem α):Prop:=SR P (fun _ a b=>b=a) ρ s s'
abbrev VS (P:Program) (ρ:PM) (s s':Sem Value):Prop:=SR P (fun ρ a b=>VR ρ a b) ρ s s'
theorem SR.bnd {α β γ δ:Type} {R:PM→α→β→Prop} {R':PM→γ→δ→Prop} {f:α→Sem γ} {f':β→Sem δ} {s:Sem α} {s':Sem β} (h:SR P R ρ s s') (k:∀ρ' a b,PLe ρ ρ'→R ρ' a b→SR P R' ρ' (f a) (f' b)):SR P R' ρ (s>>=f) (s'>>=f'):=h.bind k
theorem SR.st {α β:Type} {R:PM→α→β→Prop} {w:String} {s':Sem β}:SR P R ρ (stuck w:Sem α) s':=.halt fun v e=>by cases e
theorem SR.un {α β:Type} {R:PM→α→β→Prop} {w:Unsupported} {s':Sem β}:SR P R ρ (unsupported w:Sem α) s':=.halt fun v e=>by cases e
theorem se_program:SR P (fun _ a b=>a=P∧b=P) ρ program program:=.program (.pure ⟨rfl,rfl⟩)
theorem se_typeInfo (t:TypeId):SR P (fun _ a b=>b=a∧P.info? t=some a) ρ (typeInfo t) (typeInfo t):=by
 unfold typeInfo
 refine se_program.bnd fun ρ' a b hl e=>?_
 obtain⟨rfl,rfl⟩:=e
 split
 ·rename_i i hi;exact .pure ⟨rfl,hi⟩
 ·exact .st
theorem se_underlying (t:TypeId):SE P ρ (underlying t) (underlying t):=by
 unfold underlying
 refine se_program.bnd fun ρ' a b hl e=>?_
 obtain⟨rfl,rfl⟩:=e
 split
 ·exact .pure rfl
 ·exact .st
def zOK (P:Program) (t:TypeId):Bool:=match P.info? t with
 |some i=>match i.zero with
  |some v=>flat v
  |none=>true
 |none=>true
theorem se_zero {t:TypeId} (h:zOK P t=true):VS P ρ (zeroValue t) (zeroValue t):=by
 unfold zeroValue
 refine (se_typeInfo t).bnd fun ρ' a b hl e=>?_
 obtain⟨rfl,hi⟩:=e
 simp only[zOK,hi]at h
 split
 ·rename_i v hv
  rw[hv]at h
  exact .pure (flat_VR h)
 ·exact .un
theorem se_sizeOf (t:TypeId):SE P ρ (sizeOf t) (sizeOf t):=by
 unfold sizeOf
 refine (se_typeInfo t).bnd fun ρ' a b hl e=>?_
 obtain⟨rfl,_⟩:=e
 exact .pure rfl
theorem se_isAgg (t:TypeId):SE P ρ (isAgg t) (isAgg t):=by
 unfold isAgg
 refine (se_underlying t).bnd fun ρ' a b hl e=>?_
 subst e
 split<;>exact .pure rfl
theorem vs_load {a a':Addr} (h:AR ρ a a') (m:Mode):VS P ρ (load a m) (load a' m):=.load h fun v v' hv=>.pure hv
theorem sr_loadCells {a a':Addr} (h:AR ρ a a'):∀(n i:Nat) (acc acc':Array Value),AV ρ acc acc'→SR P (fun ρ x y=>AV ρ x y) ρ (loadCellsFrom a i n acc) (loadCellsFrom a' i n acc')
 |0,i,acc,acc',hA=>.pure hA
 |n+1,i,acc,acc',hA=>.load (h.add i) fun v v' hv=>sr_loadCells h n (i+1) _ _ (hA.push hv)
theorem sr_storeCells {a a':Addr} (h:AR ρ a a'):∀(l l':List Value) (i:Nat),AV ρ l.toArray l'.toArray→SE P ρ (storeCells a l i) (storeCells a' l' i)
 |[],[],i,hA=>.pure rfl
 |[],_::_,i,hA=>by have:=hA.1;simp at this
 |_::_,[],i,hA=>by have:=hA.1;simp at this
 |v::l,v'::l',i,hA=>.store (h.add i) (hA.2 0 v v' rfl rfl) (sr_storeCells h l l' (i+1) ⟨by have:=hA.1;simpa using this,fun j u u' h1 h2=>hA.2 (j+1) u u' (by simpa using h1) (by simpa using h2)⟩)
theorem vs_loadVar {a a':Addr} (h:AR ρ a a') (t:TypeId):VS P ρ (loadVar t a) (loadVar t a'):=by
 unfold loadVar
 refine (se_isAgg t).bnd fun ρ' x y hl e=>?_
 subst e
 split
 ·refine (se_sizeOf t).bnd fun ρ'' x y hl' e=>?_
  subst e
  refine (sr_loadCells ((h.mono hl).mono hl') _ 0 _ _ ⟨rfl,fun i v v' h=>by simp at h⟩).bnd fun ρ3 x y hl3 hA=>?_
  exact .pure (.agg hA.1 hA.2)
 ·exact vs_load (h.mono hl) _
theorem se_storeVar {a a':Addr} (h:AR ρ a a') (t:TypeId) {v v':Value} (hv:VR ρ v v'):SE P ρ (storeVar t a v) (storeVar t a' v'):=by
 unfold storeVar
 refine (se_sizeOf t).bnd fun ρ' x y hl e=>?_
 subst e
 have hc:=(hv.mono hl).cells
 rw[hc.1]
 split
 ·exact .st
 ·exact sr_storeCells (h.mono hl) _ _ _ (by simpa using hc)
theorem sr_sureAddr {v v':Value} (h:VR ρ v v'):SR P (fun ρ x y=>AR ρ x y) ρ (Instr.sureAddr v) (Instr.sureAddr v'):=by
 cases h<;>first|exact .st|exact .pure (by assumption)
theorem vs_loadAt (t:TypeId) {v v':Value} (h:VR ρ v v'):VS P ρ (Instr.loadAt t v) (Instr.loadAt t v'):=by
 unfold Instr.loadAt
 exact (sr_sureAddr h).bnd fun ρ' x y hl hA=>vs_loadVar hA t
theorem se_storeAt (t:TypeId) {v v' u u':Value} (h:VR ρ v v') (hu:VR ρ u u'):SE P ρ (Instr.storeAt t v u) (Instr.storeAt t v' u'):=by
 unfold Instr.storeAt
 exact (sr_sureAddr h).bnd fun ρ' x y hl hA=>se_storeVar hA t (hu.mono hl)
theorem sr_newRow (t:TypeId) {c c':Array Value} (h:AV ρ c c'):SR P (fun ρ x y=>AR ρ x y) ρ (newRow t c) (newRow t c'):=by
 unfold newRow
 refine SR.bnd (R:=fun ρ n n'=>ρ n= .live n') (.new (.cells t (Nat.le_of_eq h.1) h.2) fun ρ' n n' hl hn _=>.pure hn) fun ρ' n n' hl hn=>?_
 exact .pure (AR.mk (.inr hn) rfl rfl)
theorem vs_alloc {t:TypeId} (h:zOK P t=true) {v v':Value}:VS P ρ (Instr.alloc t true v) (Instr.alloc t true v'):=by
 unfold Instr.alloc
 refine (se_zero h).bnd fun ρ' z z' hl hz=>?_
 exact (sr_newRow t hz.cells).bnd fun ρ'' x y hl' hA=>.pure (.ptr hA)
theorem vs_box (t:TypeId) {v v':Value} (hv:VR ρ v v'):VS P ρ (Instr.box t v) (Instr.box t v'):=by
 unfold Instr.box
 exact (sr_newRow t hv.cells).bnd fun ρ'' x y hl' hA=>.pure (.ptr hA)
theorem sr_part (t:TypeId) {c c':Array Value} (h:AV ρ c c') (off:Nat):VS P ρ (part t c off) (part t c' off):=by
 unfold part
 refine (se_isAgg t).bnd fun ρ' x y hl e=>?_
 subst e
 have h:=h.mono hl
 split
 ·refine (se_sizeOf t).bnd fun ρ'' x y hl' e=>?_
  subst e
  have:=(h.mono hl').extract off (off+y)
  exact .pure (.agg this.1 this.2)
 ·rcases h.get off with⟨h1,h2⟩|⟨v,v',h1,h2,h3⟩
  ·rw[h1];exact .st
  ·rw[h1,h2];exact .pure h3
theorem vs_field (t:TypeId) {v v':Value} (h:VR ρ v v') (f:Nat):VS P ρ (Instr.field t v f) (Instr.field t v' f):=by
 unfold Instr.field
 refine (se_underlying t).bnd fun ρ' x y hl e=>?_
 subst e
 have h:=h.mono hl
 split
 ·split
  ·refine SR.bnd (R:=fun ρ x y=>AV ρ x y) (s:=asAgg v) (s':=asAgg v') (by
    cases h<;>first|exact .st|(rename_i h1 h2;exact .pure ⟨h1,h2⟩)) fun ρ'' x y hl' hA=>?_
   exact sr_part _ hA _
  ·exact .st
 ·exact .st
theorem se_byteOf1 {α β:Type} {R:PM→α→β→Prop} {a:Addr} (h:a.spot=none) (f:Nat→Sem α) (t:Sem β):SR P R ρ (byteOf a>>=f) t:=by
 unfold byteOf
 rw[h]
 refine .programL ?_
 unfold noView viewAt
 exact .shape
theorem sr_partAt {a a':Addr} (h:AR ρ a a') (x y:Nat):SR P (fun ρ x y=>AR ρ x y) ρ (partAt a x y) (partAt a' x y):=by
 unfold partAt
 cases hs:a.spot with
 |none=>exact se_byteOf1 hs _ _
 |some k=>
  have e:byteOf a=Sem.pure k:=by
   unfold byteOf
   rw[hs]
   rfl
  rw[e]
  exact se_byteOf1 rfl _ _
theorem vs_fieldAt (t:TypeId) {v v':Value} (h:VR ρ v v') (f:Nat):VS P ρ (Instr.fieldAt t v f) (Instr.fieldAt t v' f):=by
 unfold Instr.fieldAt
 refine (se_underlying t).bnd fun ρ' x y hl e=>?_
 subst e
 have h:=h.mono hl
 split
 ·split
  ·refine (sr_sureAddr h).bnd fun ρ'' x y hl' hA=>?_
   refine SR.bnd (R:=fun ρ x y=>AR ρ x y) ?_ fun ρ3 x y hl3 hA=>.pure (.ptr hA)
   unfold fieldPlace
   refine (se_sizeOf _).bnd fun ρ3 p q hl3 e=>?_
   subst e
   split
   ·exact sr_partAt (hA.mono hl3) _ _
   ·exact .pure ((hA.mono hl3).add _)
  ·exact .st
 ·exact .st
end
end
section
section
variable {P:Program} {ρ:PM}
theorem sr_panicRt {α β:Type} {R:PM→α→β→Prop} {e:RuntimeError} (h:match e with|.bounds ..=>True|.error _=>True|.plain _=>True|.nilDeref=>True|_=>False):SR P R ρ (runtimePanic e) (runtimePanic e):=by
 unfold runtimePanic
 refine se_program.bnd fun ρ' a b hl e=>?_
 obtain⟨rfl,rfl⟩:=e
 split<;>first|exact h.elim|skip
 ·exact .panic (.iface _ (flat_VR rfl))
 ·exact .panic (.iface _ (.string _))
 ·exact .panic (.iface _ (.string _))
 ·exact .panic (.iface _ (.string _))
theorem sr_bounds {α β:Type} {R:PM→α→β→Prop} {k:IntKind} {x y:Int} {c:BoundsCode}:SR P R ρ (boundsPanic k x y c) (boundsPanic k x y c):=by
 unfold boundsPanic
 dsimp only
 split
 ·refine SR.bnd (R:=fun _ a b=>b=a) ?_ fun ρ' a b hl e=>?_
  ·exact SR.bnd (R:=fun _ a b=>b=a) (s:=choose _) (s':=choose _) (.choose rfl (.pure rfl)) fun _ a b _ e=>.pure (by subst e;rfl)
  ·subst e;exact sr_panicRt trivial
 ·exact SR.bnd (R:=fun _ a b=>b=a) (.pure rfl) fun ρ' a b hl e=>(by subst e;exact sr_panicRt trivial)
theorem se_asIntOf {v v':Value} (h:VR ρ v v'):SE P ρ (asIntOf v) (asIntOf v'):=by
 cases h<;>first|exact .st|exact .pure rfl|exact .un
def OA (ρ:PM) (a a':Option Addr):Prop:=(a=none∧a'=none)∨∃x x',a=some x∧a'=some x'∧AR ρ x x'
theorem OA.mono {ρ ρ':PM} (hl:PLe ρ ρ') {a a':Option Addr} (h:OA ρ a a'):OA ρ' a a':=h.imp id fun⟨x,x',e,e',h⟩=>⟨x,x',e,e',h.mono hl⟩
def ixJ (t:TypeId) (k:IntKind) (n:Int) (base:Option Addr) (len:Nat) (elem:TypeId):Sem Value:=do
 let d←underlying t
 let tiny:Bool:=decide (len≤1)&&(match d with|.array _ _=>true|_=>false)
 match base with
 |some a=>
  if 0≤n∧n<(len:Int) then do
   let s←sizeOf elem
   pure (Value.pointer (some (a.add (n.toNat*s))))
  else if tiny then unsupported (.noEntry "op/indexAddr.an index out of range at an array of length 0 or 1 (ledger 616)") else boundsPanic k n len .index
 |none=>boundsPanic k n 0 .index
theorem vs_ixJ (t:TypeId) (k:IntKind) (n:Int) {base base':Option Addr} (h:OA ρ base base') (len:Nat) (elem:TypeId):VS P ρ (ixJ t k n base len elem) (ixJ t k n base' len elem):=by
 unfold ixJ
 refine (se_underlying t).bnd fun ρ4 d2 d2' hl4 e=>?_
 subst e
 rcases h with⟨rfl,rfl⟩|⟨x,x',rfl,rfl,hA⟩
 ·exact sr_bounds
 ·dsimp only
  split
  ·refine (se_sizeOf elem).bnd fun ρ5 p q hl5 e=>?_
   subst e
   exact .pure (.ptr (((hA.mono hl4).mono hl5).add _))
  ·split<;>split<;>first|exact .un|exact sr_bounds
theorem vs_indexAt (t:TypeId) {x x' i i':Value} (hx:VR ρ x x') (hi:VR ρ i i'):VS P ρ (Instr.indexAt t x i) (Instr.indexAt t x' i'):=by
 unfold Instr.indexAt
 refine (se_asIntOf hi).bnd fun ρ1 a b hl e=>?_
 subst e
 obtain⟨k,n⟩:=b
 have hx:=hx.mono hl
 refine (se_underlying t).bnd fun ρ2 d d' hl2 e=>?_
 subst e
 have hx:=hx.mono hl2
 cases d'
 case array len elem=>exact (sr_sureAddr hx).bnd fun ρ' p q hl' hA=>vs_ixJ t k n (base:=some p) (base':=some q) (.inr ⟨_,_,rfl,rfl,hA⟩) len elem
 case slice elem=>
  cases hx<;>try exact SR.bnd (R:=fun _ (_ _:Option Addr×Nat×TypeId)=>False) .st fun _ _ _ _ h=>h.elim
  ·rename_i l c;exact vs_ixJ t k n (base:=none) (base':=none) (.inl ⟨rfl,rfl⟩) l elem
  ·rename_i h hc _;exact vs_ixJ t k n (.inr ⟨_,_,rfl,rfl,h⟩) _ elem
 all_goals (cases hx<;>exact SR.bnd (R:=fun _ (_ _:Option Addr×Nat×TypeId)=>False) .st fun _ _ _ _ h=>h.elim)
theorem vs_index (t:TypeId) {x x' i i':Value} (hx:VR ρ x x') (hi:VR ρ i i'):VS P ρ (Instr.index t x i) (Instr.index t x' i'):=by
 unfold Instr.index
 refine (se_asIntOf hi).bnd fun ρ1 a b hl e=>?_
 subst e
 obtain⟨k,n⟩:=b
 have hx:=hx.mono hl
 refine (se_underlying t).bnd fun ρ2 d d' hl2 e=>?_
 subst e
 have hx:=hx.mono hl2
 have hAV:=hx.cells
 cases d'<;>cases hx<;>first|exact .st|skip
 ·dsimp only
  split
  ·exact .pure (.int ..)
  ·exact sr_bounds
 ·dsimp only
  split
  ·refine (se_sizeOf _).bnd fun ρ5 p q hl5 e=>?_
   subst e
   exact sr_part _ (AV.mono hl5 hAV) _
  ·exact sr_bounds
theorem vs_extract {x x':Value} (hx:VR ρ x x') (i:Nat):VS P ρ (Instr.extract x i) (Instr.extract x' i):=by
 unfold Instr.extract
 cases hx<;>try exact .st
 rename_i h1 h2
 rcases AV.get ⟨h1,h2⟩ i with⟨h3,h4⟩|⟨v,v',h3,h4,h5⟩
 ·simp only[h3];exact .st
 ·simp only[h3,h4];exact .pure h5
theorem vs_makeInterface (t:TypeId) {x x':Value} (hx:VR ρ x x'):VS P ρ (Instr.makeInterface t x) (Instr.makeInterface t x'):=by
 unfold Instr.makeInterface
 refine (se_underlying t).bnd fun ρ2 d d' hl2 e=>?_
 subst e
 split
 ·exact .st
 ·exact .pure (.iface t (hx.mono hl2))
theorem vs_makeMap (t:TypeId):VS P ρ (Instr.makeMap t none) (Instr.makeMap t none):=by
 unfold Instr.makeMap
 refine SR.bnd (R:=fun ρ n n'=>ρ n= .live n') (.new (.map 0 ⟨rfl,fun i v v' h=>by simp at h⟩) fun ρ' n n' hl hn _=>.pure hn) fun ρ' n n' hl hn=>?_
 exact .pure (.map (.inr hn))
theorem vs_makeMapR (t:TypeId) {x x':Value} (hx:VR ρ x x'):VS P ρ (Instr.makeMap t (some x)) (Instr.makeMap t (some x')):=by
 unfold Instr.makeMap
 dsimp only
 refine (se_underlying t).bnd fun ρ2 d d' hl2 e=>?_
 subst e
 split
 ·refine SR.bnd (R:=fun _ _ _=>True) (s:=asInt x) (s':=asInt x') ?_ fun ρ3 a b hl3 _=>?_
  ·unfold asInt
   exact (se_asIntOf (hx.mono hl2)).bnd fun _ _ _ _ _=>.pure trivial
  ·refine SR.bnd (R:=fun ρ n n'=>ρ n= .live n') (.new (.map 0 ⟨rfl,fun i v v' h=>by simp at h⟩) fun ρ' n n' hl hn _=>.pure hn) fun ρ' n n' hl hn=>?_
   exact .pure (.map (.inr hn))
 ·exact .st
theorem vs_next {x x':Value} (hx:VR ρ x x') (t:TypeId):VS P ρ (Instr.next x true t) (Instr.next x' true t):=by
 unfold Instr.next
 cases hx<;>try exact .st
 rename_i a a' h
 obtain⟨b,o,sp⟩:=a;obtain⟨b',o',sp'⟩:=a'
 obtain⟨h1,h2⟩:=h
 rcases h2 with hd|⟨h2,h3⟩
 ·cases o with
  |succ=>exact .st
  |zero=>exact .getObjD hd
 simp only at h1 h2 h3;subst h2;subst h3
 cases o' with
 |succ=>exact .st
 |zero=>
  refine SR.bnd (R:=fun ρ o o'=>OR ρ o o') (.getObj h1 fun o o' ho=>.pure ho) fun ρ2 o o' hl ho=>?_
  cases ho<;>try exact .st
  dsimp only
  split
  ·exact SR.bnd (R:=fun _ _ _=>True) (.setObj (h1.mono hl) (.stringIter ..) (.pure trivial)) fun _ _ _ _ _=>.pure (flat_VR rfl)
  ·exact .pure (flat_VR rfl)
theorem vs_typeAssert {t at_:TypeId} (hz:zOK P at_=true) {x x':Value} (hx:VR ρ x x'):VS P ρ (Instr.typeAssert x t at_ true) (Instr.typeAssert x' t at_ true):=by
 have two:∀{ρ:PM} {v v':Value} (b:Bool),VR ρ v v'→VR ρ (.tuple #[v,.bool b]) (.tuple #[v',.bool b]):=fun b h=>.tuple rfl fun i u u' h1 h2=>by
  cases i with
  |zero=>simp at h1 h2;subst h1;subst h2;exact h
  |succ i=>
   cases i with
   |zero=>simp at h1 h2;subst h1;subst h2;exact .bool _
   |succ=>simp at h1
 have fails:∀{ρ:PM},VS P ρ (do pure (.tuple #[← zeroValue at_, .bool false])) (do pure (.tuple #[← zeroValue at_, .bool false])):=fun {ρ}=>(se_zero hz).bnd fun ρ' z z' hl h=>.pure (two _ h)
 unfold Instr.typeAssert
 refine (se_underlying at_).bnd fun ρ2 d d' hl2 e=>?_
 subst e
 have hx:=hx.mono hl2
 cases d'<;>cases hx<;>try exact .st
 all_goals first|exact fails|skip
 all_goals (rename_i h)
 all_goals first
  |(dsimp only;split
    ·exact .pure (two _ h)
    ·exact fails)
  |skip
 refine (se_typeInfo _).bnd fun ρ3 a b hl3 e=>?_
 obtain⟨rfl,_⟩:=e
 split
 ·exact .pure (two _ (.iface _ (h.mono hl3)))
 ·exact fails
end
end
section
section
variable {P:Program} {ρ:PM}
theorem se_listMapM {α β:Type} {f:α→Sem β} (h:∀ρ x,SE P ρ (f x) (f x)):∀(ρ:PM) (l:List α),SE P ρ (l.mapM f) (l.mapM f)
 |ρ,[]=>by rw[List.mapM_nil];exact .pure rfl
 |ρ,x::l=>by
  rw[List.mapM_cons]
  refine (h ρ x).bnd fun ρ' a b hl e=>?_
  subst e
  refine (se_listMapM h ρ' l).bnd fun ρ'' a b hl e=>?_
  subst e
  exact .pure rfl
theorem se_mapM {α β:Type} {f:α→Sem β} (h:∀ρ x,SE P ρ (f x) (f x)) (l:Array α):SE P ρ (l.mapM f) (l.mapM f):=by
 rw[Array.mapM_eq_mapM_toList]
 exact SR.bnd (se_listMapM h ρ l.toList) fun ρ' a b hl e=>.pure (by subst e;rfl)
theorem AV.nil:AV ρ #[] #[]:=⟨rfl,fun i v v' h=>by simp at h⟩
theorem foldSet_AV (off:Nat):∀(l l':List Value) (k:Nat) (c c':Array Value),AV ρ l.toArray l'.toArray→AV ρ c c'→
  AV ρ ((l.zipIdx k).foldl (fun cs x=>cs.setIfInBounds (off+x.2) x.1) c) ((l'.zipIdx k).foldl (fun cs x=>cs.setIfInBounds (off+x.2) x.1) c')
 |[],[],k,c,c',_,hc=>by simpa using hc
 |[],_::_,_,_,_,h,_=>by have:=h.1;simp at this
 |_::_,[],_,_,_,h,_=>by have:=h.1;simp at this
 |v::l,v'::l',k,c,c',h,hc=>by
  rw[List.zipIdx_cons,List.zipIdx_cons,List.foldl_cons,List.foldl_cons]
  exact foldSet_AV off l l' (k+1) _ _ ⟨by have:=h.1;simpa using this,fun j u u' h1 h2=>h.2 (j+1) u u' (by simpa using h1) (by simpa using h2)⟩ (hc.set _ (h.2 0 v v' rfl rfl))
def PR (ρ:PM) (l l':List (Nat×Value)):Prop:=l.length=l'.length∧∀(i:Nat) x x',l[i]? =some x→l'[i]? =some x'→x'.1=x.1∧VR ρ x.2 x'.2
theorem PR.mono {ρ ρ':PM} (hl:PLe ρ ρ') {c c':List (Nat×Value)} (h:PR ρ c c'):PR ρ' c c':=⟨h.1,fun i x x' a b=>⟨(h.2 i x x' a b).1,(h.2 i x x' a b).2.mono hl⟩⟩
theorem fill_AV (pl:Nat→Option (Nat×Nat)):∀(ps ps':List (Nat×Value)) (c c':Array Value),PR ρ ps ps'→AV ρ c c'→(Instr.fill pl c ps=none∧Instr.fill pl c' ps'=none)∨∃d d',Instr.fill pl c ps=some d∧Instr.fill pl c' ps'=some d'∧AV ρ d d'
 |[],[],c,c',_,h=>.inr ⟨_,_,rfl,rfl,h⟩
 |[],_::_,_,_,h,_=>by have:=h.1;simp at this
 |_::_,[],_,_,h,_=>by have:=h.1;simp at this
 |(i,v)::ps,(i',v')::ps',c,c',h,hc=>by
  obtain⟨he,hv⟩:=h.2 0 _ _ rfl rfl
  simp only at he hv;subst he
  unfold Instr.fill
  cases hp:pl i' with
  |none=>exact .inl ⟨rfl,rfl⟩
  |some p=>
   obtain⟨off,size⟩:=p
   have hcs:=hv.cells
   dsimp only
   rw[hcs.1,hc.1]
   split
   ·exact .inl ⟨rfl,rfl⟩
   ·refine fill_AV pl ps ps' _ _ ⟨by have:=h.1;simpa using this,fun j u u' h1 h2=>h.2 (j+1) u u' (by simpa using h1) (by simpa using h2)⟩ ?_
    have:=foldSet_AV off v.cells.toList v'.cells.toList 0 c c' (by simpa using hcs) hc
    rw[←Array.foldl_toList,←Array.foldl_toList,Array.toList_zipIdx,Array.toList_zipIdx]
    exact this
theorem vs_build {t:TypeId} (hz:zOK P t=true) {ps ps':Array (Nat×Value)} (h:PR ρ ps.toList ps'.toList):VS P ρ (Instr.build t ps) (Instr.build t ps'):=by
 unfold Instr.build
 refine (se_zero hz).bnd fun ρ1 z z' hl hzv=>?_
 have h:=h.mono hl
 refine (se_underlying t).bnd fun ρ2 d d' hl2 e=>?_
 subst e
 have h:=h.mono hl2
 have hzc:=(hzv.mono hl2).cells
 split
 ·refine (se_mapM (fun ρ f=>(se_sizeOf _).bnd fun _ a b _ e=>.pure (by subst e;rfl)) _).bnd fun ρ3 a b hl3 e=>?_
  subst e
  rcases fill_AV (fun i=>b[i]?) _ _ _ _ (h.mono hl3) (hzc.mono hl3) with⟨h1,h2⟩|⟨d,d',h1,h2,h3⟩
  ·rw[h1];exact .st
  ·rw[h1,h2];exact .pure (.agg h3.1 h3.2)
 ·refine (se_sizeOf _).bnd fun ρ3 a b hl3 e=>?_
  subst e
  rcases fill_AV (fun i=>some (i*b,b)) _ _ _ _ (h.mono hl3) (hzc.mono hl3) with⟨h1,h2⟩|⟨d,d',h1,h2,h3⟩
  ·rw[h1];exact .st
  ·rw[h1,h2];exact .pure (.agg h3.1 h3.2)
 ·exact .st
theorem rep_AV {z z':Array Value} (h:AV ρ z z') (n:Nat):AV ρ ((Array.range n).map fun i=>z[i%z.size]!) ((Array.range n).map fun i=>z'[i%z'.size]!):=⟨by simp,fun i v v' h1 h2=>by
 rw[Array.getElem?_map]at h1 h2
 by_cases hi:i<n
 ·rw[Array.getElem?_range,if_pos hi]at h1 h2
  simp only[Option.map_some,Option.some.injEq]at h1 h2
  subst h1;subst h2
  rw[←h.1]
  rcases h.get (i%z.size) with⟨k1,k2⟩|⟨u,u',k1,k2,k3⟩
  ·rw[getElem!_def,getElem!_def,k1,k2];exact .bool _
  ·rw[getElem!_def,getElem!_def,k1,k2];exact k3
 ·rw[Array.getElem?_eq_none (by simpa using hi)]at h1;cases h1⟩
theorem vs_buildSlice {t e:TypeId} (he:P.underlying t=some (.slice e)) (hz:zOK P e=true) {n:Nat} (hn:n≠LOO) {ps ps':Array (Nat×Value)} (h:PR ρ ps.toList ps'.toList):VS P ρ (Instr.buildSlice t n ps) (Instr.buildSlice t n ps'):=by
 unfold Instr.buildSlice
 refine SR.bnd (R:=fun _ a b=>b=a∧a= .slice e) ?_ fun ρ1 d d' hl e1=>?_
 ·unfold underlying
  refine se_program.bnd fun ρ' a b hl e1=>?_
  obtain⟨rfl,rfl⟩:=e1
  rw[he]
  exact .pure ⟨rfl,rfl⟩
 obtain⟨rfl,rfl⟩:=e1
 have h:=h.mono hl
 dsimp only
 refine (se_sizeOf e).bnd fun ρ2 a b hl2 e1=>?_
 subst e1
 have h:=h.mono hl2
 have tail:∀{ρ:PM} {z z':Array Value} {q q':Array (Nat×Value)},AV ρ z z'→PR ρ q.toList q'.toList→VS P ρ (match Instr.fill (fun i=>some (i*b,b)) ((Array.range (n*b)).map (fun x=>z[x%z.size]!)) q.toList with
   |some cells=>(do pure (Value.slice (some (← newRow e cells)) n n))
   |_=>stuck "buildSlice: a part of the wrong size") (match Instr.fill (fun i=>some (i*b,b)) ((Array.range (n*b)).map (fun x=>z'[x%z'.size]!)) q'.toList with
   |some cells=>(do pure (Value.slice (some (← newRow e cells)) n n))
   |_=>stuck "buildSlice: a part of the wrong size"):=fun {ρ z z' q q'} hz h=>by
  rcases fill_AV (fun i=>some (i*b,b)) _ _ _ _ h (rep_AV hz (n*b)) with⟨h1,h2⟩|⟨d,d',h1,h2,h3⟩
  ·rw[h1];exact .st
  ·rw[h1,h2]
   exact (sr_newRow e h3).bnd fun ρ3 x y hl3 hA=>.pure (.sl hA (.inl ⟨hn,rfl⟩))
 split
 ·exact SR.bnd (R:=fun _ (_ _:Unit)=>False) .un fun _ _ _ _ h=>h.elim
 ·split
  ·exact SR.bnd (R:=fun ρ a b=>AV ρ a b) (.pure AV.nil) fun ρ3 z z' hl3 hA=>tail hA (h.mono hl3)
  ·exact (se_zero hz).bnd fun ρ3 z z' hl3 hv=>SR.bnd (R:=fun ρ a b=>AV ρ a b) (.pure hv.cells) fun ρ4 y y' hl4 hA=>tail hA ((h.mono hl3).mono hl4)
end
end
end Go.Proofs.YtngglbakkedaiaaGreatDoor
