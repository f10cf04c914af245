import Derived.Test.YtngglbakkedaiaaGreatDoorFD
set_option linter.all false
namespace Go.Proofs.YtngglbakkedaiaaGreatDoor
noncomputable section
def prun (P:Program) {α:Type}:Sem α→Option (AO α)
 |.pure a=>some (.ok a)
 |.program k=>prun P (k P)
 |.mark _ k=>prun P k
 |.halt (.panic v)=>some (.panic v)
 |_=>none
inductive OO
 |value (v:Value)
 |skip
 |enter (f:Fn) (args:Array Value)
 |defer (f:FuncId) (args:Array Value)
 |panic (v:Value)
def okX (n0:Nat):Operand→Bool
 |.const v=>flat v
 |.global g=>Nat.blt g n0
 |_=>true
def aev (e:Tr Value):Operand→Value
 |.tmp t=>(e.get t).getD undef
 |.const v=>v
 |.global g=>.pointer (some ⟨g,0,none⟩)
 |.func f=>.func (.func f) #[] #[]
def okXs (n0:Nat) (l:Array Operand):Bool:=l.toList.all (okX n0)
def fv {β:Type} (v:Value) (k:Value→β):β:=match v with
 |.int q (.ofNat n)=>sq n fun n=>k (.int q (.ofNat n))
 |.int q (.negSucc n)=>sq n fun n=>k (.int q (.negSucc n))
 |v=>k v
theorem fv_eq {β:Type} (v:Value) (k:Value→β):fv v k=k v:=by
 cases v<;>try rfl
 rename_i q n
 cases n<;>(unfold fv;simp only [sq_eq])
def sliceE (P:Program) (t:TypeId):Option TypeId:=match P.underlying t with
 |some (.slice e)=>some e
 |_=>none
def sok (P:Program) (e:Tr Value):Op→Bool
 |.load _ _=>true
 |.store _ _ _=>true
 |.alloc t=>zOK P t
 |.box _ _=>true
 |.build t _=>zOK P t
 |.buildSlice t n _=>match sliceE P t with
  |some u=>zOK P u&&Nat.blt n 1000000
  |none=>false
 |.fieldAddr _ _ _=>true
 |.field _ _ _=>true
 |.indexAddr _ _ _=>true
 |.index _ _ _=>true
 |.extract _ _=>true
 |.makeInterface _ _=>true
 |.makeFunc (.func _) _ _=>true
 |.makeMap _ _=>true
 |.makeSlice t _ c=>match sliceE P t,aev e c with
  |some u,.int _ (.ofNat m)=>zOK P u&&Nat.blt m 1000000
  |_,_=>false
 |.lookup t _ k _=>match P.underlying t with
  |some (.map _ u)=>zOK P u&&scal (aev e k)
  |_=>false
 |.mapUpdate _ _ k _=>scal (aev e k)
 |.insert _ _ k _=>scal (aev e k)
 |.range _ _=>true
 |.next _ _=>true
 |.entry _=>true
 |.typeAssert x _ t true=>zOK P t
 |.typeAssert x _ t false=>match aev e x with
  |.iface u _=>Nat.beq u t&&(match P.underlying t with
   |some (.interface _)=>false
   |some _=>true
   |none=>false)
  |_=>false
 |.nilCheck x=>match aev e x with
  |.func (.method _) _ _=>false
  |_=>true
 |.call ⟨.builtin .len,args,_⟩=>Nat.beq args.size 1
 |.call ⟨.builtin .clear,args,at_⟩=>Nat.beq args.size 1&&(match at_.toList with
  |[u]=>match sliceE P u with
   |some e=>zOK P e
   |none=>true
  |_=>false)
 |.call ⟨.builtin .delete,args,_⟩=>match args.toList with
  |[_,k]=>scal (aev e k)
  |_=>false
 |_=>false
def toOO:AO Next→Option OO
 |.ok (.value v)=>some (.value v)
 |.ok .skip=>some .skip
 |.panic v=>some (.panic v)
 |_=>none
section
variable (P:Program) (n0:Nat)
def eS (e:Tr Value) (o:Oper) (s:AS):Option (OO×AS):=match sok P e o.op with
 |true=>match okXs n0 o.op.operands with
  |true=>match arun P (execOp (aev e) o) s with
   |some (r,s')=>match toOO r with
    |some r=>some (r,s')
    |none=>none
   |none=>none
  |false=>none
 |false=>none
def isFlatV:OO→Bool
 |.value v=>flat v
 |.panic v=>flat v
 |.skip=>true
 |_=>false
def eF (e:Tr Value) (o:Oper) (s:AS):Option (OO×AS):=match o.op.operands.toList.all (fun x=>flat (aev e x)) with
 |true=>match prun P (execOp (aev e) o) with
  |some r=>match toOO r with
   |some r=>match isFlatV r with
    |true=>some (r,s)
    |false=>none
   |none=>none
  |none=>none
 |false=>none
def eM (e:Tr Value) (x:Operand) (s:AS):Option (OO×AS):=match okX n0 x with
 |true=>some (.value (aev e x),s)
 |false=>none
def nilEq:Value→Value→Option Bool
 |.pointer none,.pointer b=>some b.isNone
 |.pointer (some _),.pointer none=>some false
 |.slice none _ _,.slice b _ _=>some b.isNone
 |.slice (some _) _ _,.slice none _ _=>some false
 |.map none,.map b=>some b.isNone
 |.map (some _),.map none=>some false
 |.func _ _ _,.nilFunc=>some false
 |.nilFunc,.func _ _ _=>some false
 |.iface _ _,.nilIface=>some false
 |.nilIface,.iface _ _=>some false
 |_,_=>none
def kindOK:Option TypeDesc→Value→Bool
 |some (.pointer _),.pointer _=>true
 |some (.slice _),.slice _ _ _=>true
 |some (.map _ _),.map _=>true
 |some (.func _ _ _),.func _ _ _=>true
 |some (.func _ _ _),.nilFunc=>true
 |some (.interface _),.iface _ _=>true
 |some (.interface _),.nilIface=>true
 |_,_=>false
def eN (e:Tr Value) (op:BinOp) (t:TypeId) (x y:Operand) (s:AS):Option (OO×AS):=match okX n0 x&&okX n0 y&&kindOK (P.underlying t) (aev e x)&&kindOK (P.underlying t) (aev e y) with
 |true=>match nilEq (aev e x) (aev e y) with
  |some b=>match op with
   |.eql=>some (.value (.bool b),s)
   |.neq=>some (.value (.bool (!b)),s)
   |_=>none
  |none=>none
 |false=>none
def natOf:Option Value→Nat→Option Nat
 |none,d=>some d
 |some (.int _ (.ofNat n)),_=>some n
 |_,_=>none
def eSl (e:Tr Value) (t:TypeId) (x:Operand) (lo hi:Option Operand) (s:AS):Option (OO×AS):=match aev e x with
 |.slice (some a) l c=>match sliceE P t,natOf (lo.map (aev e)) 0,natOf (hi.map (aev e)) l,okXs n0 (#[x]++lo.toArray++hi.toArray) with
  |some u,some i,some j,true=>match Nat.beq c LOO with
   |true=>match Nat.ble i j&&Nat.ble j l&&(Nat.beq i 0||Nat.blt i l)&&Nat.ble 1 (P.cellsOf u) with
    |true=>sq (i*P.cellsOf u) fun k=>sq (j-i) fun m=>some (.value (.slice (some (a.add k)) m LOO),s)
    |false=>none
   |false=>match Nat.ble i j&&Nat.ble j c&&Nat.ble 1 (P.cellsOf u)&&Nat.blt c LOO with
    |true=>sq (i*P.cellsOf u) fun k=>sq (j-i) fun m=>sq (c-i) fun q=>some (.value (.slice (some (cond (Nat.beq c i) a (a.add k))) m q),s)
    |false=>none
  |_,_,_,_=>none
 |_=>none
def lenV:Value→Option Nat
 |.slice _ n _=>some n
 |.string b=>some b.size
 |_=>none
def rowVs (s:AS) (n k:Nat):Value→Option (Array Value×Nat)
 |.slice (some a) _ _=>match s.heap.get a.block,a.spot with
  |some (.cells c _ _),none=>match Nat.ble (a.off+k) c.size with
   |true=>some (⟨(c.toList.drop a.off).take k⟩,bit a.block)
   |false=>none
  |_,_=>none
 |.slice none _ _=>match Nat.beq k 0 with
  |true=>some (#[],0)
  |false=>none
 |.string b=>some ((b.extract 0 n).data.map (fun b=> .int .u8 b.toNat),0)
 |_=>none
def one1:Value→Bool
 |.agg _=>false
 |.tuple _=>false
 |_=>true
def notInt (P:Program) (t:TypeId):Bool:=match P.underlying t with
 |some (.slice _)=>true
 |some .string=>true
 |_=>false
def zC (P:Program) (u:TypeId):Bool:=match P.info? u with
 |some i=>match i.zero with
  |some z=>flat z&&Nat.beq z.cells.size i.size
  |none=>false
 |none=>false
def eA (e:Tr Value) (at_:Array TypeId) (args:Array Operand) (s:AS):Option (OO×AS):=match args.toList,at_.toList with
 |[so,xo],[t,t2]=>match okX n0 so&&okX n0 xo&&notInt P t2,sliceE P t,aev e so,lenV (aev e xo) with
  |true,some u,.slice base l c,some n=>match zC P u&&Nat.ble 1 (P.cellsOf u)&&Nat.ble (P.bytesOf u) 4096&&Nat.ble (l+n) 1000000 with
   |true=>match Nat.beq n 0 with
    |true=>match Nat.ble l c with
     |true=>some (.value (.slice base l c),s)
     |false=>none
    |false=>match rowVs s l (l*P.cellsOf u) (.slice base l c),rowVs s n (n*P.cellsOf u) (aev e xo) with
     |some (o,m1),some (w,m2)=>match Nat.beq o.size (l*P.cellsOf u)&&Nat.beq w.size (n*P.cellsOf u)&&w.toList.all one1 with
      |true=>match Nat.beq c LOO with
       |true=>match base with
        |some a=>match s.heap.get a.block,Nat.beq a.off 0 with
         |some (.cells _ t' (0,0)),true=>match Nat.beq t' u with
          |true=>sq (s.next+1) fun nx=>sq (s.rd|||m2) fun rd=>sq (s.wr|||bit a.block) fun wr=>sq (l+n) fun m=>some (.value (.slice (some ⟨s.next,0,none⟩) m LOO),{heap:=(s.heap.set s.next (some (.cells (o++w) u))).set a.block none,next:=nx,rd:=rd,wr:=wr})
          |false=>none
         |_,_=>none
        |none=>none
       |false=>match Nat.ble (l+n) c with
        |true=>match base with
         |some a=>match s.heap.get a.block with
          |some (.cells q t' (0,0))=>match Nat.ble (a.off+(l+n)*P.cellsOf u) q.size with
           |true=>sq (s.rd|||m2) fun rd=>sq (s.wr|||bit a.block) fun wr=>sq (l+n) fun m=>some (.value (.slice base m c),{s with heap:=s.heap.set a.block (some (.cells ⟨q.toList.take (a.off+l*P.cellsOf u)++w.toList++q.toList.drop (a.off+(l+n)*P.cellsOf u)⟩ t')),rd:=rd,wr:=wr})
           |false=>none
          |_=>none
         |none=>none
        |false=>sq (s.next+1) fun nx=>sq (s.rd|||(m1|||m2)) fun rd=>sq (l+n) fun m=>some (.value (.slice (some ⟨s.next,0,none⟩) m LOO),{s with heap:=s.heap.set s.next (some (.cells (o++w) u)),next:=nx,rd:=rd})
      |false=>none
     |_,_=>none
   |false=>none
  |_,_,_,_=>none
 |_,_=>none
def isInt (P:Program) (t:TypeId):Bool:=match P.underlying t with
 |some (.int _)=>true
 |_=>false
def zcA (P:Program) (u:TypeId):Option (Array Value):=match P.info? u with
 |some i=>match i.zero with
  |some z=>some z.cells
  |none=>none
 |none=>none
def eZs (e:Tr Value) (at_:Array TypeId) (args:Array Operand) (s:AS):Option (OO×AS):=match args.toList,at_.toList with
 |[so,xo],[t,t2]=>match okX n0 so&&okX n0 xo&&isInt P t2,sliceE P t,aev e so,aev e xo with
  |true,some u,.slice base l c,.int _ (.ofNat n)=>match zC P u&&Nat.ble 1 (P.cellsOf u)&&Nat.ble (P.bytesOf u) 4096&&Nat.ble (l+n) 1000000&&Nat.ble 1 n&&Nat.blt c (l+n) with
   |true=>match rowVs s l (l*P.cellsOf u) (.slice base l c),zcA P u with
    |some (o,m1),some zc=>match Nat.beq o.size (l*P.cellsOf u) with
     |true=>sq (s.next+1) fun nx=>sq (s.rd|||m1) fun rd=>sq (l+n) fun m=>some (.value (.slice (some ⟨s.next,0,none⟩) m LOO),{s with heap:=s.heap.set s.next (some (.cells (o++Builtin.zeroCells zc n) u)),next:=nx,rd:=rd})
     |false=>none
    |_,_=>none
   |false=>none
  |_,_,_,_=>none
 |_,_=>none
def eCv (e:Tr Value) (st dt:TypeId) (x:Operand) (s:AS):Option (OO×AS):=match okX n0 x with
 |true=>match aev e x with
  |.pointer (some ⟨b,0,none⟩)=>match s.heap.get b with
   |some (.cells c t _)=>match P.underlying st with
    |some (.pointer u)=>match P.underlying dt with
     |some .unsafePointer=>match P.info? u with
      |some j=>match Nat.ble 1 j.size&&Nat.ble 1 c.size with
       |true=>sq (s.rd|||bit b) fun rd=>some (.value (.pointer (some ⟨b,0,none⟩)),{s with rd:=rd})
       |false=>none
      |none=>none
     |_=>none
    |some .unsafePointer=>match P.underlying dt with
     |some (.pointer u)=>match P.info? u with
      |some _=>match Nat.beq t u&&Nat.ble 1 (P.cellsOf t)&&Nat.ble (P.cellsOf t) c.size with
       |true=>sq (s.rd|||bit b) fun rd=>some (.value (.pointer (some ⟨b,0,none⟩)),{s with rd:=rd})
       |false=>none
      |none=>none
     |_=>none
    |_=>none
   |_=>none
  |_=>none
 |false=>none
def isNE (P:Program) (g:Nat):Bool:=match P.funcs[g]? with
 |some fn=>match fn.body with
  |none=>fn.name== "internal/abi.NoEscape"&&fn.origin== ""
  |some _=>false
 |none=>false
def eNe (e:Tr Value) (c:Call) (s:AS):Option (OO×AS):=match c.callee,c.args.toList with
 |.value f,[x]=>match okX n0 f&&okX n0 x with
  |true=>match aev e f with
   |.func (.func g) first cap=>match Nat.beq first.size 0&&Nat.beq cap.size 0&&isNE P g with
    |true=>some (.value (aev e x),s)
    |false=>none
   |_=>none
  |false=>none
 |_,_=>none
def ePq (e:Tr Value) (op:BinOp) (t:TypeId) (x y:Operand) (s:AS):Option (OO×AS):=match okX n0 x&&okX n0 y with
 |true=>match aev e x with
  |.pointer (some ⟨b,o,none⟩)=>match aev e y with
   |.pointer (some ⟨b2,o2,none⟩)=>match s.heap.get b with
    |some (.cells _ _ _)=>match P.underlying t with
     |some (.pointer u)=>match P.info? u with
      |some _=>match Nat.beq b b2&&Nat.beq o o2 with
       |true=>match op with
        |.eql=>sq (s.rd|||bit b) fun rd=>some (.value (.bool true),{s with rd:=rd})
        |.neq=>sq (s.rd|||bit b) fun rd=>some (.value (.bool false),{s with rd:=rd})
        |_=>none
       |false=>none
      |none=>none
     |_=>none
    |_=>none
   |_=>none
  |_=>none
 |false=>none
def eSD (e:Tr Value) (args:Array Operand) (s:AS):Option (OO×AS):=match args.toList with
 |[x]=>match okX n0 x with
  |true=>match aev e x with
   |.slice none _ _=>some (.value (.pointer none),s)
   |.slice (some a) l c=>match Nat.ble 1 l&&Nat.ble 1 c with
    |true=>some (.value (.pointer (some a)),s)
    |false=>none
   |_=>none
  |false=>none
 |_=>none
def bytesV:List Value→Option (List UInt8)
 |[]=>some []
 |v::r=>match v with
  |.int .u8 (.ofNat n)=>match Nat.blt n 256 with
   |true=>match bytesV r with
    |some l=>some (UInt8.ofNat n::l)
    |none=>none
   |false=>none
  |_=>none
def eUS (e:Tr Value) (at_:Array TypeId) (args:Array Operand) (s:AS):Option (OO×AS):=match args.toList,at_.toList with
 |[x,y],[pt,_]=>match okX n0 x&&okX n0 y with
  |true=>match aev e y with
   |.int .i64 (.ofNat 0)=>match aev e x with
    |.pointer _=>some (.value (.string .empty),s)
    |_=>none
   |.int .i64 (.ofNat (m+1))=>match aev e x with
    |.pointer (some ⟨b,0,none⟩)=>match s.heap.get b with
     |some (.cells c t _)=>match P.underlying pt with
      |some (.pointer u)=>match Nat.beq t u&&Nat.beq (P.cellsOf t) 1&&Nat.ble (m+1) c.size&&Nat.blt (m+1) 1000000 with
       |true=>match bytesV (c.toList.take (m+1)) with
        |some l=>sq (s.wr|||bit b) fun wr=>some (.value (.string ⟨⟨l⟩⟩),{s with heap:=s.heap.set b none,wr:=wr})
        |none=>none
       |false=>none
      |_=>none
     |_=>none
    |_=>none
   |_=>none
  |false=>none
 |_,_=>none
def eCp (e:Tr Value) (at_:Array TypeId) (args:Array Operand) (s:AS):Option (OO×AS):=match args.toList,at_.toList with
 |[d,x],[t,_]=>match okX n0 d&&okX n0 x,sliceE P t,aev e d with
  |true,some u,.slice _ l _=>match P.info? u,lenV (aev e x) with
   |some _,some m=>match Nat.beq m 0||Nat.beq l 0 with
    |true=>some (.value (.int .i64 0),s)
    |false=>none
   |_,_=>none
  |_,_,_=>none
 |_,_=>none
def setK (P:Program) (t:TypeId):Bool:=match P.underlying t with
 |some (.map k _)=>match P.underlying k with
  |some (.int .i64)=>true
  |_=>false
 |_=>false
def setD (P:Program) (t:TypeId):Bool:=match P.info? t with
 |some i=>match i.desc with
  |.named _ _=>match P.underlying t with
   |some (.map _ v)=>match P.underlying v with
    |some (.struct ⟨[]⟩)=>setK P t
    |_=>false
   |_=>false
  |_=>false
 |none=>false
def isKn (n:Nat):Value→Bool
 |.int .i64 (.ofNat m)=>Nat.beq n m
 |_=>false
def sHas (n:Nat) (l:List Value):Bool:=l.any (isKn n)
def sPut (n:Nat):List Value→List Value
 |[]=>[.int .i64 (.ofNat n)]
 |v::l=>match v with
  |.int .i64 (.ofNat m)=>match Nat.blt n m with
   |true=> .int .i64 (.ofNat n)::v::l
   |false=>v::sPut n l
  |_=>v::sPut n l
def sIns (n:Nat) (l:List Value):List Value:=match sHas n l with
 |true=>l
 |false=>sPut n l
def sDel (n:Nat) (l:List Value):List Value:=l.filter (fun v=> !isKn n v)
def sqL {β:Type}:List Value→(List Value→β)→β
 |[],k=>k []
 |v::r,k=>sqL r fun r=>k (v::r)
theorem sqL_eq {β:Type}:∀(l:List Value) (k:List Value→β),sqL l k=k l
 |[],_=>rfl
 |v::r,k=>sqL_eq r _
def setAt (s:AS) (v:Value):Option (Nat×List Value):=match v with
 |.map (some r)=>match s.heap.get r with
  |some (.chan _ b _ _ _ _)=>some (r,b.toList)
  |_=>none
 |_=>none
def setOb (l:List Value):Obj:= .chan 0 ⟨l⟩ false 0 0 false
def eSm (t:TypeId) (r:Option Operand) (s:AS):Option (OO×AS):=match r with
 |none=>match setD P t with
  |true=>sq (s.next+1) fun nx=>some (.value (.map (some s.next)),{s with heap:=s.heap.set s.next (some (setOb [])),next:=nx})
  |false=>none
 |some _=>none
def eSu (e:Tr Value) (t:TypeId) (m k v:Operand) (s:AS):Option (OO×AS):=match setAt s (aev e m) with
 |some (r,l)=>match okX n0 m&&okX n0 k&&okX n0 v&&setK P t with
  |true=>match aev e k,aev e v with
   |.int .i64 (.ofNat n),.agg ⟨[]⟩=>sq n fun n=>sqL (sIns n l) fun l=>sq (s.wr|||bit r) fun wr=>some (.skip,{s with heap:=s.heap.set r (some (setOb l)),wr:=wr})
   |_,_=>none
  |false=>none
 |none=>none
def eSd (e:Tr Value) (at_:Array TypeId) (args:Array Operand) (s:AS):Option (OO×AS):=match args.toList,at_.toList with
 |[m,k],[t,_]=>match setAt s (aev e m) with
  |some (r,l)=>match okX n0 m&&okX n0 k&&setK P t with
   |true=>match aev e k with
    |.int .i64 (.ofNat n)=>sq n fun n=>sqL (sDel n l) fun l=>sq (s.wr|||bit r) fun wr=>some (.value (.tuple #[]),{s with heap:=s.heap.set r (some (setOb l)),wr:=wr})
    |_=>none
   |false=>none
  |none=>none
 |_,_=>none
def eSn (e:Tr Value) (at_:Array TypeId) (args:Array Operand) (s:AS):Option (OO×AS):=match args.toList,at_.toList with
 |[m],[t]=>match setAt s (aev e m) with
  |some (r,l)=>match okX n0 m&&setK P t with
   |true=>sq l.length fun n=>sq (s.rd|||bit r) fun rd=>some (.value (.int .i64 (.ofNat n)),{s with rd:=rd})
   |false=>none
  |none=>none
 |_,_=>none
def mapAt (s:AS) (v:Value):Option (Nat×Array MapEntry×Nat):=match v with
 |.map (some r)=>match s.heap.get r with
  |some (.map es cl)=>match es.toList.all (fun x=>flat x.key) with
   |true=>some (r,es,cl)
   |false=>none
  |_=>none
 |_=>none
def mapK (P:Program) (t:TypeId):Option (TypeId×TypeId):=match P.underlying t with
 |some (.map k v)=>some (k,v)
 |_=>none
def keyIx (P:Program) (b:Bool) (K:TypeId) (k:Value) (es:Array MapEntry):Option (Option (Nat×Value)):=match prun P (Instr.checkKey b 10000 K k) with
 |some (.ok _)=>match prun P (Instr.findKey K k es.toList) with
  |some (.ok r)=>some r
  |_=>none
 |_=>none
def eMk (e:Tr Value) (t:TypeId) (m k:Operand) (ok:Bool) (s:AS):Option (OO×AS):=match mapAt s (aev e m),mapK P t,okX n0 m&&okX n0 k&&flat (aev e k) with
 |some (r,es,_),some (K,V),true=>match keyIx P es.isEmpty K (aev e k) es with
  |some (some (_,v))=>sq (s.rd|||bit r) fun rd=>some (.value (match ok with|true=>.tuple #[v,.bool true]|false=>v),{s with rd:=rd})
  |some none=>match prun P (zeroValue V) with
   |some (.ok z)=>match flat z with
    |true=>sq (s.rd|||bit r) fun rd=>some (.value (match ok with|true=>.tuple #[z,.bool false]|false=>z),{s with rd:=rd})
    |false=>none
   |_=>none
  |none=>none
 |_,_,_=>none
def eMu (e:Tr Value) (t:TypeId) (m k v:Operand) (s:AS):Option (OO×AS):=match mapAt s (aev e m),mapK P t,okX n0 m&&okX n0 k&&okX n0 v&&flat (aev e k) with
 |some (r,es,cl),some (K,_),true=>match keyIx P false K (aev e k) es with
  |some (some (i,_))=>match Instr.sameBits 10000 (((es[i]?).map (·.key)).getD (aev e k)) (aev e k) with
   |true=>sq (s.wr|||bit r) fun wr=>some (.skip,{s with heap:=s.heap.set r (some (.map (es.modify i fun x=>{x with key:=aev e k,val:=aev e v}) cl)),wr:=wr})
   |false=>none
  |some none=>sq (s.wr|||bit r) fun wr=>sq (cl+1) fun cl1=>some (.skip,{s with heap:=s.heap.set r (some (.map (es.push {key:=aev e k,val:=aev e v,born:=cl}) cl1)),wr:=wr})
  |none=>none
 |_,_,_=>none
def hasBody (P:Program) (g:Nat):Bool:=match P.funcs[g]? with
 |some fn=>fn.body.isSome&& !(fn.name== "runtime.NumGoroutine")
 |none=>false
def eC (e:Tr Value) (c:Call) (s:AS):Option (OO×AS):=match c.callee with
 |.value f=>match okX n0 f&&okXs n0 c.args with
  |true=>match aev e f with
   |.func (.func g) first cap=>match hasBody P g with
    |true=>some (.enter (.func g) (first++c.args.map (aev e)++cap),s)
    |false=>none
   |.func (.yield l) first _=>some (.enter (.yield l) (first++c.args.map (aev e)),s)
   |_=>none
  |false=>none
 |_=>none
def eDf (e:Tr Value) (c:Call) (s:AS):Option (OO×AS):=match c.callee with
 |.value f=>match okX n0 f&&okXs n0 c.args with
  |true=>match aev e f with
   |.func (.func g) first cap=>match hasBody P g with
    |true=>some (.defer g (first++c.args.map (aev e)++cap),s)
    |false=>none
   |_=>none
  |false=>none
 |_=>none
def aggN (P:Program) (t:TypeId):Option (Option Nat):=match P.underlying t,P.info? t with
 |some (.struct _),some i=>some (some i.size)
 |some (.array _ _),some i=>some (some i.size)
 |some _,some _=>some none
 |_,_=>none
def eLd (e:Tr Value) (t:TypeId) (x:Operand) (s:AS):Option (OO×AS):=match okX n0 x with
 |true=>match aev e x with
  |.pointer (some a)=>match s.heap.get a.block,a.spot with
   |some (.cells c _ _),none=>match aggN P t with
    |some (some n)=>match Nat.ble 1 n&&Nat.ble (a.off+n) c.size with
     |true=>sq (s.rd|||bit a.block) fun rd=>some (.value (.agg ⟨(c.toList.drop a.off).take n⟩),{s with rd:=rd})
     |false=>none
    |_=>none
   |_,_=>none
  |_=>none
 |false=>none
def eSt (e:Tr Value) (t:TypeId) (x v:Operand) (s:AS):Option (OO×AS):=match okX n0 x&&okX n0 v with
 |true=>match aev e x,aev e v with
  |.pointer (some a),.agg cs=>match s.heap.get a.block,a.spot,P.info? t with
   |some (.cells c t' (0,0)),none,some i=>match Nat.beq cs.size i.size&&Nat.ble 1 i.size&&Nat.ble (a.off+i.size) c.size&&cs.toList.all one1 with
    |true=>sq (s.wr|||bit a.block) fun wr=>some (.skip,{s with heap:=s.heap.set a.block (some (.cells ⟨c.toList.take a.off++cs.toList++c.toList.drop (a.off+i.size)⟩ t')),wr:=wr})
    |false=>none
   |_,_,_=>none
  |_,_=>none
 |false=>none
def ikn:IntKind→Nat
 |.i8=>0
 |.i16=>1
 |.i32=>2
 |.i64=>3
 |.u8=>4
 |.u16=>5
 |.u32=>6
 |.u64=>7
def cmpB (op:BinOp) (a b:Nat):Option Bool:=match op with
 |.eql=>some (Nat.beq a b)
 |.neq=>some (!Nat.beq a b)
 |.lss=>some (Nat.blt a b)
 |.leq=>some (Nat.ble a b)
 |.gtr=>some (Nat.blt b a)
 |.geq=>some (Nat.ble b a)
 |_=>none
def addB (op:BinOp) (a b:Nat) (s:AS):Option (OO×AS):=match op with
 |.add=>match Nat.blt (a+b) 9223372036854775808 with
  |true=>sq (a+b) fun n=>some (.value (.int .i64 (.ofNat n)),s)
  |false=>none
 |.sub=>match Nat.ble b a&&Nat.blt a 9223372036854775808 with
  |true=>sq (a-b) fun n=>some (.value (.int .i64 (.ofNat n)),s)
  |false=>none
 |_=>none
def eBs (op:BinOp) (x y:Value) (s:AS):Option (OO×AS):=match x with
 |.int k (.ofNat a)=>match y with
  |.int k' (.ofNat b)=>match Nat.beq (ikn k) (ikn k') with
   |true=>match cmpB op a b with
    |some c=>some (.value (.bool c),s)
    |none=>match Nat.beq (ikn k) 3 with
     |true=>addB op a b s
     |false=>none
   |false=>none
  |_=>none
 |_=>none
def isS (P:Program) (t:TypeId):Bool:=match aggN P t with
 |some none=>true
 |_=>false
def eL1 (e:Tr Value) (t:TypeId) (x:Operand) (s:AS):Option (OO×AS):=match okX n0 x with
 |true=>match aev e x with
  |.pointer (some ⟨b,o,none⟩)=>match s.heap.get b with
   |some (.cells c _ _)=>match isS P t with
    |true=>match c.toList.drop o with
     |v::_=>sq (s.rd|||bit b) fun rd=>some (.value v,{s with rd:=rd})
     |[]=>none
    |false=>none
   |_=>none
  |_=>none
 |false=>none
def isS1 (P:Program) (t:TypeId):Bool:=match P.info? t with
 |some i=>Nat.beq i.size 1
 |none=>false
def eT1 (e:Tr Value) (t:TypeId) (x v:Operand) (s:AS):Option (OO×AS):=match okX n0 x&&okX n0 v with
 |true=>match aev e x with
  |.pointer (some ⟨b,o,none⟩)=>match s.heap.get b with
   |some (.cells c t' (0,0))=>match isS1 P t&&one1 (aev e v) with
    |true=>match Nat.blt o c.size with
     |true=>sq (s.wr|||bit b) fun wr=>some (.skip,{s with heap:=s.heap.set b (some (.cells ⟨c.toList.take o++aev e v::c.toList.drop (o+1)⟩ t')),wr:=wr})
     |false=>none
    |false=>none
   |_=>none
  |_=>none
 |false=>none
def eI1 (e:Tr Value) (t:TypeId) (x i:Operand) (s:AS):Option (OO×AS):=match okX n0 x&&okX n0 i with
 |true=>match aev e x with
  |.slice (some ⟨b,o,none⟩) l _=>match aev e i with
   |.int _ (.ofNat n)=>match sliceE P t with
    |some u=>match P.info? u with
     |some j=>match Nat.blt n l with
      |true=>sq (o+n*j.size) fun m=>some (.value (.pointer (some ⟨b,m,none⟩)),s)
      |false=>none
     |none=>none
    |none=>none
   |_=>none
  |_=>none
 |false=>none
def fldO (P:Program) (t:TypeId) (f:Nat):Option Nat:=match P.underlying t with
 |some (.struct fs)=>match fs[f]? with
  |some q=>match P.info? q.type with
   |some i=>match Nat.beq i.size 0 with
    |true=>none
    |false=>some q.offset
   |none=>none
  |none=>none
 |_=>none
def eF1 (e:Tr Value) (t:TypeId) (x:Operand) (f:Nat) (s:AS):Option (OO×AS):=match okX n0 x with
 |true=>match aev e x with
  |.pointer (some ⟨b,o,none⟩)=>match fldO P t f with
   |some q=>sq (o+q) fun m=>some (.value (.pointer (some ⟨b,m,none⟩)),s)
   |none=>none
  |_=>none
 |false=>none
def isStr (P:Program) (t:TypeId):Bool:=match P.underlying t with
 |some .string=>true
 |_=>false
def eX1 (t:TypeId) (x i:Value) (s:AS):Option (OO×AS):=match x with
 |.string ⟨⟨l⟩⟩=>match i with
  |.int _ (.ofNat n)=>match isStr P t with
   |true=>match l.drop n with
    |b::_=>sq b.toNat fun m=>some (.value (.int .u8 (.ofNat m)),s)
    |[]=>none
   |false=>none
  |_=>none
 |_=>none
def eE1 (e:Tr Value) (x:Operand) (i:Nat) (s:AS):Option (OO×AS):=match okX n0 x with
 |true=>match aev e x with
  |.tuple ⟨l⟩=>match l.drop i with
   |v::_=>some (.value v,s)
   |[]=>none
  |_=>none
 |false=>none
def isLen (P:Program) (t:TypeId) (x:Value):Bool:=match P.underlying t with
 |some .string=>match x with
  |.string _=>true
  |_=>false
 |some (.slice _)=>match x with
  |.slice _ _ _=>true
  |_=>false
 |_=>false
def eN1 (e:Tr Value) (args:Array Operand) (at_:Array TypeId) (s:AS):Option (OO×AS):=match args with
 |⟨[x]⟩=>match at_ with
  |⟨[u]⟩=>match okX n0 x&&isLen P u (aev e x) with
   |true=>match lenV (aev e x) with
    |some n=>sq n fun n=>some (.value (.int .i64 (.ofNat n)),s)
    |none=>none
   |false=>none
  |_=>none
 |_=>none
def zv (P:Program) (t:TypeId):Option Value:=match P.info? t with
 |some i=>match i.zero with
  |some z=>match flat z with
   |true=>some z
   |false=>none
  |none=>none
 |none=>none
def eW1 (t:TypeId) (s:AS):Option (OO×AS):=match zv P t with
 |some z=>sq (s.next+1) fun n=>some (.value (.pointer (some ⟨s.next,0,none⟩)),{s with heap:=s.heap.set s.next (some (.cells z.cells t)),next:=n})
 |none=>none
def fillQ (n:Nat) (pl:Nat→Option (Nat×Nat)):List Value→List (Nat×Value)→Option (List Value)
 |z,[]=>some z
 |z,(i,v)::r=>match pl i with
  |some (off,size)=>match Nat.beq v.cells.size size&&Nat.ble (off+size) n with
   |true=>fillQ n pl (z.take off++v.cells.toList++z.drop (off+size)) r
   |false=>none
  |none=>none
def plcs (P:Program) (t:TypeId):Option (List (Nat×Nat)):=match P.underlying t with
 |some (.struct fs)=>match fs.toList.all (fun f=>(P.info? f.type).isSome) with
  |true=>some (fs.toList.map fun f=>(f.offset,P.cellsOf f.type))
  |false=>none
 |_=>none
def elsz (P:Program) (t:TypeId):Option Nat:=match P.underlying t with
 |some (.array _ u)=>match P.info? u with
  |some i=>some i.size
  |none=>none
 |_=>none
def bldV (P:Program) (t:TypeId) (ps:List (Nat×Value)):Option Value:=match zv P t with
 |some z=>match plcs P t with
  |some l=>match fillQ z.cells.size (fun i=>l[i]?) z.cells.toList ps with
   |some c=>some (.agg ⟨c⟩)
   |none=>none
  |none=>match elsz P t with
   |some k=>match fillQ z.cells.size (fun i=>some (i*k,k)) z.cells.toList ps with
    |some c=>some (.agg ⟨c⟩)
    |none=>none
   |none=>none
 |none=>none
def cst1:Nat×Operand→Option (Nat×Value)
 |(i,.const v)=>match flat v with
  |true=>some (i,v)
  |false=>none
 |_=>none
def cst:List (Nat×Operand)→Option (List (Nat×Value))
 |[]=>some []
 |p::r=>match cst1 p with
  |some q=>match cst r with
   |some l=>some (q::l)
   |none=>none
  |none=>none
def bldC (P:Program) (t:TypeId) (ps:List (Nat×Operand)):Option Value:=match cst ps with
 |some l=>bldV P t l
 |none=>none
def eBu (e:Tr Value) (t:TypeId) (ps:Array (Nat×Operand)) (s:AS):Option (OO×AS):=match bldC P t ps.toList with
 |some v=>some (.value v,s)
 |none=>match ps.toList.all (fun x=>okX n0 x.2) with
  |true=>match bldV P t (ps.toList.map fun x=>(x.1,aev e x.2)) with
   |some v=>some (.value v,s)
   |none=>none
  |false=>none
def eop (e:Tr Value) (o:Oper) (s:AS):Option (OO×AS):=match o.op with
 |.move x=>eM n0 e x s
 |.assign x=>eM n0 e x s
 |.pick c a b=>match aev e c with
  |.bool true=>match okX n0 c&&okX n0 b with
   |true=>eM n0 e a s
   |false=>none
  |.bool false=>match okX n0 c&&okX n0 a with
   |true=>eM n0 e b s
   |false=>none
  |_=>none
 |.binOp op t x y _=>match eBs op (aev e x) (aev e y) s with
  |some r=>some r
  |none=>match flat (aev e x)&&flat (aev e y) with
   |true=>eF P e o s
   |false=>match eN P n0 e op t x y s with
    |some r=>some r
    |none=>ePq P n0 e op t x y s
 |.unOp _ _ _=>eF P e o s
 |.convert t u x=>match eF P e o s with
  |some r=>some r
  |none=>eCv P n0 e t u x s
 |.index t x i=>match eX1 P t (aev e x) (aev e i) s with
  |some r=>some r
  |none=>match flat (aev e x) with
   |true=>eF P e o s
   |false=>eS P n0 e o s
 |.slice t x lo hi none=>match flat (aev e x) with
  |true=>eF P e o s
  |false=>eSl P n0 e t x lo hi s
 |.call c=>match c.callee with
  |.builtin .append=>match eA P n0 e c.argTypes c.args s with
   |some r=>some r
   |none=>eZs P n0 e c.argTypes c.args s
  |.builtin .len=>match eN1 P n0 e c.args c.argTypes s with
   |some r=>some r
   |none=>match eSn P n0 e c.argTypes c.args s with
    |some r=>some r
    |none=>eS P n0 e o s
  |.builtin .clear=>eS P n0 e o s
  |.builtin .delete=>match eSd P n0 e c.argTypes c.args s with
   |some r=>some r
   |none=>eS P n0 e o s
  |.builtin .min=>eF P e o s
  |.builtin .max=>eF P e o s
  |.builtin .cap=>eF P e o s
  |.builtin .copy=>eCp P n0 e c.argTypes c.args s
  |.builtin .unsafeSliceData=>eSD n0 e c.args s
  |.builtin .unsafeString=>eUS P n0 e c.argTypes c.args s
  |.builtin _=>none
  |_=>match eC P n0 e c s with
   |some x=>some x
   |none=>match eNe P n0 e c s with
    |some x=>some x
    |none=>eF P e o s
 |.load t x=>match eL1 P n0 e t x s with
  |some r=>some r
  |none=>match eLd P n0 e t x s with
   |some r=>some r
   |none=>eS P n0 e o s
 |.store t x v=>match eT1 P n0 e t x v s with
  |some r=>some r
  |none=>match eSt P n0 e t x v s with
   |some r=>some r
   |none=>eS P n0 e o s
 |.indexAddr t x i=>match eI1 P n0 e t x i s with
  |some r=>some r
  |none=>eS P n0 e o s
 |.fieldAddr t x f=>match eF1 P n0 e t x f s with
  |some r=>some r
  |none=>eS P n0 e o s
 |.extract x i=>match eE1 n0 e x i s with
  |some r=>some r
  |none=>eS P n0 e o s
 |.build t ps=>match eBu P n0 e t ps s with
  |some r=>some r
  |none=>eS P n0 e o s
 |.alloc t=>match eW1 P t s with
  |some r=>some r
  |none=>eS P n0 e o s
 |.makeMap t r=>match eSm P t r s with
  |some r=>some r
  |none=>eS P n0 e o s
 |.mapUpdate t m k v=>match eSu P n0 e t m k v s with
  |some r=>some r
  |none=>match scal (aev e k) with
   |true=>eS P n0 e o s
   |false=>eMu P n0 e t m k v s
 |.insert t m k v=>match eSu P n0 e t m k v s with
  |some r=>some r
  |none=>match scal (aev e k) with
   |true=>eS P n0 e o s
   |false=>eMu P n0 e t m k v s
 |.lookup t m k ok=>match scal (aev e k) with
  |true=>eS P n0 e o s
  |false=>eMk P n0 e t m k ok s
 |.defer c=>eDf P n0 e c s
 |.panic x=>match aev e x,okX n0 x with
  |.iface t v,true=>some (.panic (.iface t v),s)
  |_,_=>none
 |_=>eS P n0 e o s
end
inductive AXs
 |normal
 |exit (id:Nat)
 |ret
 |panic (v:Value)
inductive CO
 |ret (v:Value)
 |panic (v:Value)
inductive ADef
 |mark (D:Nat)
 |fn (f:FuncId) (args:Array Value)
structure St where
 env:Tr Value
 s:AS
 dfs:List ADef
abbrev ACall:=Fn→Array Value→AS→Option (CO×AS)
section
variable (P:Program) (n0:Nat)
def yld (ops:Array Oper) (e:Tr Value) (j:Nat):Option Bool:=match (ops[j]?).bind (·.dst) with
 |some t=>match e.get t with
  |some (.bool b)=>some b
  |_=>none
 |none=>none
def wnt (ops:Array Oper) (o:Oper) (e:Tr Value):Bool:=match o.guard with
 |none=>true
 |some (j,true)=>match yld ops e j with
  |some b=>b
  |none=>false
 |some (j,false)=>match yld ops e j with
  |some b=> !b
  |none=>false
def aput (size:Nat) (dst:Option Tmp) (v:Value) (st:St):Option (AXs×St):=match dst with
 |none=>some (.normal,st)
 |some d=>match Nat.blt d size with
  |true=>fv v fun v=>some (.normal,{st with env:=st.env.set d (some v)})
  |false=>none
def aop1 (call:ACall) (size:Nat) (ops:Array Oper) (dk:Bool) (o:Oper) (st:St):Option (AXs×St):=match wnt ops o st.env with
 |true=>match eop P n0 st.env o st.s with
  |some (.value v,s)=>aput size o.dst v {st with s:=s}
  |some (.skip,s)=>aput size o.dst undef {st with s:=s}
  |some (.enter f args,s)=>match call f args s with
   |some (.ret v,s)=>aput size o.dst v {st with s:=s}
   |some (.panic v,s)=>some (.panic v,{st with s:=s})
   |none=>none
  |some (.defer f args,s)=>match dk with
   |true=>aput size o.dst undef {st with s:=s,dfs:=.fn f args::st.dfs}
   |false=>none
  |some (.panic v,s)=>some (.panic v,{st with s:=s})
  |none=>none
 |false=>aput size o.dst undef st
def aops (call:ACall) (size:Nat) (ops:Array Oper) (dk:Bool):List Oper→St→Option (AXs×St)
 |[],st=>some (.normal,st)
 |o::r,st=>match aop1 P n0 call size ops dk o st with
  |some (.normal,st)=>aops call size ops dk r st
  |x=>x
def rng (i j:Nat):Nat:=(bit (j-i)-1)<<<i
def adr (call:ACall) (size:Nat) (ops:Array Oper):List (Oper×Nat)→Nat→List (Nat×Nat×Nat)→St→Option (AXs×St)
 |[],_,_,st=>some (.normal,st)
 |(o,bf)::r,i,h,st=>match aop1 P n0 call size ops false o {st with s:={st.s with rd:=0,wr:=0}} with
  |some (.normal,st')=>sq (st'.s.wr|||rng st.s.next st'.s.next) fun w=>
   match h.all (fun x=>bf.testBit x.1||(Nat.beq (x.2.2&&&(st'.s.rd|||w)) 0&&Nat.beq (w&&&x.2.1) 0)) with
   |true=>sq (st.s.rd|||st'.s.rd) fun rd=>sq (st.s.wr|||st'.s.wr) fun wr=>adr call size ops r (i+1) ((i,st'.s.rd,w)::h) {st' with s:={st'.s with rd:=rd,wr:=wr}}
   |false=>none
  |some (.panic v,st')=>match h.all (fun x=>bf.testBit x.1||Nat.beq x.2.2 0)&&r.all (fun x=>x.2.testBit i) with
   |true=>sq (st.s.rd|||st'.s.rd) fun rd=>sq (st.s.wr|||st'.s.wr) fun wr=>some (.panic v,{st' with s:={st'.s with rd:=rd,wr:=wr}})
   |false=>none
  |_=>none
def befs (ops:Array Oper) (i j:Nat):Bool:=((Region.before ops).getD i 0).testBit j
def dstAts (ops:Array Oper) (i:Nat):Option Tmp:=(ops[i]?).bind (·.dst)
def wrOfs (ops:Array Oper) (t:Tmp):Option Nat:=(List.range ops.size).find? fun i=>dstAts ops i==some t
def rgOKs (ops:Array Oper) (size:Nat):Bool:=
 ((List.range ops.size).all fun i=>(dstAts ops i).all fun t=>decide (t<size)&&(wrOfs ops t==some i))&&
 ((List.range ops.size).all fun i=>((ops[i]?).map (Oper.looksAt ops)).all fun l=>l.all fun t=>(wrOfs ops t).all fun j=>befs ops i j||befs ops j i)&&
 ((List.range ops.size).all fun i=>((ops[i]?).map (·.after.toList)).all fun l=>l.all fun e=> !Region.binds .any e||decide (e.on<i))
def loopN:Nat→(St→Option (AXs×St))→St→Option (AXs×St)
 |0,_,_=>none
 |n+1,f,st=>match f st with
  |some (.normal,st)=>loopN n f st
  |x=>x
def arr (size:Nat) (e:Tr Value):Array Value:=⟨(List.range size).map fun t=>(e.get t).getD undef⟩
def mks:Option Nat→List Deferred→Option (List ADef)
 |none,[⟨.collected D,_⟩]=>some [.mark D]
 |some _,[]=>some []
 |_,_=>none
def acode (call:ACall) (ir:Option Nat) (size lf:Nat):Code→St→Option (AXs×St)
 |.skip,st=>some (.normal,st)
 |.region _ ops false,st=>aops P n0 call size ops ir.isNone ops.toList st
 |.region _ ops true,st=>match rgOKs ops size with
  |true=>adr P n0 call size ops (ops.toList.zip (Region.before ops).toList) 0 [] st
  |false=>none
 |.seq a b,st=>match acode call ir size lf a st with
  |some (.normal,st)=>acode call ir size lf b st
  |x=>x
 |.cond c x y,st=>match okX n0 c with
  |true=>match aev st.env c with
   |.bool true=>acode call ir size lf x st
   |.bool false=>acode call ir size lf y st
   |_=>none
  |false=>none
 |.block id b,st=>match acode call ir size lf b st with
  |some (.exit i,st)=>match Nat.beq i id with
   |true=>some (.normal,st)
   |false=>some (.exit i,st)
  |x=>x
 |.loop b,st=>loopN lf (acode call ir size lf b) st
 |.rangeFunc g ps asg body,st=>match okX n0 g with
  |true=>match aev st.env g with
   |.func (.func gf) first cap=>match hasBody P gf with
    |true=>match arun P (Instr.enterLoop 0 (arr size st.env) ps asg body ir) st.s with
     |some (.ok (l,mk),s1)=>match mks ir mk with
      |some dl=>match call (.func gf) (first++#[.func (.yield l) #[] #[]]++cap) s1 with
       |some (.ret _,s2)=>match arun P (Instr.endLoop l) s2 with
        |some (.ok none,s3)=>some (.normal,{st with s:=s3,dfs:=dl++st.dfs})
        |some (.ok (some .ret),s3)=>some (.ret,{st with s:=s3,dfs:=dl++st.dfs})
        |some (.ok (some (.exit i)),s3)=>some (.exit i,{st with s:=s3,dfs:=dl++st.dfs})
        |_=>none
       |some (.panic v,s2)=>some (.panic v,{st with s:=s2,dfs:=dl++st.dfs})
       |none=>none
      |none=>none
     |_=>none
    |false=>none
   |_=>none
  |false=>none
 |.scope b,st=>acode call ir size lf b st
 |.label _,st=>some (.normal,st)
 |.exit id,st=>some (.exit id,st)
 |.ret,st=>some (.ret,st)
 |_,_=>none
def envOf:List Value→Nat→Tr Value→Tr Value
 |[],_,e=>e
 |v::l,i,e=>envOf l (i+1) (e.set i (some v))
def resF (get:Nat→Value) (fn:Func):Sem Value:=do
 let vs←fn.results.mapM fun
  |.tmp t=>pure (get t)
  |.cell a t=>do loadVar t (←asAddr (get a))
 pure (if h:vs.size=1 then vs[0] else .tuple vs)
inductive Md
 |ret
 |pan (v:Value) (caught:Bool)
def isRec (o:Oper):Bool:=match o.op with
 |.call ⟨.builtin .recover,_,_⟩=>true
 |_=>false
def adop (size:Nat) (ops:Array Oper):List Oper→Md→St→Option (AXs×St×Md)
 |[],m,st=>some (.normal,st,m)
 |o::r,m,st=>match wnt ops o st.env with
  |true=>match isRec o with
   |true=>match m with
    |.pan v false=>match aput size o.dst v st with
     |some (_,st)=>adop size ops r (.pan v true) st
     |none=>none
    |m=>match aput size o.dst .nilIface st with
     |some (_,st)=>adop size ops r m st
     |none=>none
   |false=>match eop P n0 st.env o st.s with
    |some (.value v,s)=>match aput size o.dst v {st with s:=s} with
     |some (_,st)=>adop size ops r m st
     |none=>none
    |some (.skip,s)=>match aput size o.dst undef {st with s:=s} with
     |some (_,st)=>adop size ops r m st
     |none=>none
    |_=>none
  |false=>match aput size o.dst undef st with
   |some (_,st)=>adop size ops r m st
   |none=>none
def hasRec (ops:Array Oper):Bool:=ops.toList.any isRec
def ad0 (call:ACall) (size lf:Nat) (c:Code) (m:Md) (st:St):Option (AXs×St×Md):=match acode P n0 call none size lf c st with
 |some (.panic _,_)=>none
 |some (x,st)=>some (x,st,m)
 |none=>none
def adcode (call:ACall) (size lf:Nat):Code→Md→St→Option (AXs×St×Md)
 |.seq a b,m,st=>match adcode call size lf a m st with
  |some (.normal,st,m)=>adcode call size lf b m st
  |x=>x
 |.cond c x y,m,st=>match okX n0 c with
  |true=>match aev st.env c with
   |.bool true=>adcode call size lf x m st
   |.bool false=>adcode call size lf y m st
   |_=>none
  |false=>none
 |.region id ops false,m,st=>match hasRec ops with
  |true=>adop P n0 size ops ops.toList m st
  |false=>ad0 P n0 call size lf (.region id ops false) m st
 |c,m,st=>ad0 P n0 call size lf c m st
def settl:Md→Md
 |.pan _ true=>.ret
 |m=>m
def adcall (call:ACall) (lf:Nat) (f:FuncId) (args:Array Value) (m:Md) (s:AS):Option (Md×AS):=match P.funcs[f]? with
 |some fn=>match fn.body,fn.results.toList with
  |some c,[]=>match adcode P n0 call (args.size+(fn.ntmps-args.size)) lf c m ⟨envOf args.toList 0 .o,s,[]⟩ with
   |some (.normal,⟨_,s,[]⟩,m)=>some (settl m,s)
   |some (.ret,⟨_,s,[]⟩,m)=>some (settl m,s)
   |_=>none
  |_,_=>none
 |none=>none
def alv (call:ACall) (lf:Nat):List ADef→Md→AS→Option (Md×AS)
 |[],m,s=>some (m,s)
 |.mark D::l,m,s=>match arun P (Instr.takeDeferred D) s with
  |some (.ok _,s)=>alv call lf l m s
  |_=>none
 |.fn f args::l,m,s=>match adcall P n0 call lf f args m s with
  |some (m,s)=>alv call lf l m s
  |none=>none
def ares1 (e:Tr Value) (x:ResultVar) (s:AS):Option (Value×AS):=match x with
 |.tmp t=>some ((e.get t).getD undef,s)
 |.cell a t=>match eL1 P n0 e t (.tmp a) s with
  |some (.value v,s)=>some (v,s)
  |_=>match eLd P n0 e t (.tmp a) s with
   |some (.value v,s)=>some (v,s)
   |_=>none
def aresL (e:Tr Value):List ResultVar→AS→Option (List Value×AS)
 |[],s=>some ([],s)
 |x::l,s=>match ares1 P n0 e x s with
  |some (v,s)=>match aresL e l s with
   |some (vs,s)=>some (v::vs,s)
   |none=>none
  |none=>none
def ares0 (e:Tr Value) (fn:Func) (s:AS):Option (CO×AS):=match arun P (resF (fun t=>(e.get t).getD undef) fn) s with
 |some (.ok v,s)=>some (.ret v,s)
 |_=>none
def ares (e:Tr Value) (fn:Func) (s:AS):Option (CO×AS):=match aresL P n0 e fn.results.toList s with
 |some ([v],s)=>some (.ret v,s)
 |some (vs,s)=>some (.ret (.tuple ⟨vs⟩),s)
 |none=>ares0 P e fn s
def arnd (call:ACall) (lf:Nat) (l:Nat) (args:Array Value) (s:AS):Option (CO×AS):=match arun P (Instr.getLoop l) s with
 |some (.ok r,s1)=>match Nat.beq args.size r.params.size with
  |true=>match acode P n0 call (some l) r.tmps.size lf r.assign ⟨envOf ((r.params.zip args).foldl (fun tmps (t,a)=>tmps.setIfInBounds t a) r.tmps).toList 0 .o,s1,[]⟩ with
   |some (.normal,st)=>match arun P (Instr.beginRound l) st.s with
    |some (.ok _,s2)=>match acode P n0 call (some l) r.tmps.size lf r.body {st with s:=s2} with
     |some (.normal,st)=>match arun P (Instr.endRound l none) st.s with
      |some (.ok v,s)=>some (.ret v,s)
      |_=>none
     |some (.ret,st)=>match arun P (Instr.endRound l (some .ret)) st.s with
      |some (.ok v,s)=>some (.ret v,s)
      |_=>none
     |some (.exit i,st)=>match arun P (Instr.endRound l (some (.exit i))) st.s with
      |some (.ok v,s)=>some (.ret v,s)
      |_=>none
     |_=>none
    |_=>none
   |_=>none
  |false=>none
 |_=>none
def abody (call:ACall) (lf:Nat) (f:FuncId) (args:Array Value) (s:AS):Option (CO×AS):=match P.funcs[f]? with
 |some fn=>match fn.body with
  |some c=>match acode P n0 call none (args.size+(fn.ntmps-args.size)) lf c ⟨envOf args.toList 0 .o,s,[]⟩ with
   |some (.normal,st)=>match alv P n0 call lf st.dfs .ret st.s with
    |some (.ret,s)=>ares P n0 st.env fn s
    |_=>none
   |some (.ret,st)=>match alv P n0 call lf st.dfs .ret st.s with
    |some (.ret,s)=>ares P n0 st.env fn s
    |_=>none
   |some (.panic v,st)=>match alv P n0 call lf st.dfs (.pan v false) st.s with
    |some (.ret,s)=>match fn.results.toList with
     |[]=>some (.ret (.tuple #[]),s)
     |_=>none
    |some (.pan v false,s)=>some (.panic v,s)
    |_=>none
   |_=>none
  |none=>none
 |none=>none
def acall (ext:ACall→ACall) (lf:Nat):Nat→ACall
 |0=>fun _ _ _=>none
 |k+1=>fun f args s=>match f with
  |.func f=>match ext (acall ext lf k) (.func f) args s with
   |some r=>some r
   |none=>abody P n0 (acall ext lf k) lf f args s
  |.yield l=>arnd P n0 (acall ext lf k) lf l args s
  |_=>none
end
end
end Go.Proofs.YtngglbakkedaiaaGreatDoor
