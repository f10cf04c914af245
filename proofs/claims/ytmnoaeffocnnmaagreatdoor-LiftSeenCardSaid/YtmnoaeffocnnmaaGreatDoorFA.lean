import Derived.Test.YtmnoaeffocnnmaaGreatDoorFD
import Derived.OrdersIn
namespace Go.Proofs.YtmnoaeffocnnmaaGreatDoor
noncomputable section
/-- a tree without memory, run -/
def prun (P:Program) {α:Type}:Sem α→Option (AO α)
 |.pure a=>some (.ok a)
 |.program k=>prun P (k P)
 |.mark _ k=>prun P k
 |.halt (.panic v)=>some (.panic v)
 |_=>none
inductive OO
 |value (v:Value)
 |skip
 |enter (f:Fn) (args:Array Value)
 |defer (f:FuncId) (args:Array Value)
 |panic (v:Value)
def okX (n0:Nat):Operand→Bool
 |.const v=>flat v
 |.global g=>Nat.blt g n0
 |_=>true
def aev (e:Tr Value):Operand→Value
 |.tmp t=>(e.get t).getD undef
 |.const v=>v
 |.global g=>.pointer (some ⟨g,0,none⟩)
 |.func f=>.func (.func f) #[] #[]
def okXs (n0:Nat) (l:Array Operand):Bool:=l.toList.all (okX n0)
/-- a number reckoned out -/
def fv {β:Type} (v:Value) (k:Value→β):β:=match v with
 |.int q (.ofNat n)=>sq n fun n=>k (.int q (.ofNat n))
 |.int q (.negSucc n)=>sq n fun n=>k (.int q (.negSucc n))
 |v=>k v
theorem fv_eq {β:Type} (v:Value) (k:Value→β):fv v k=k v:=by
 cases v<;>try rfl
 rename_i q n
 cases n<;>(unfold fv;simp only [sq_eq])
def sliceE (P:Program) (t:TypeId):Option TypeId:=match P.underlying t with
 |some (.slice e)=>some e
 |_=>none
/-- whether an operation is of those whose trees are alike -/
def sok (P:Program) (e:Tr Value):Op→Bool
 |.load _ _=>true
 |.store _ _ _=>true
 |.alloc t=>zOK P t
 |.box _ _=>true
 |.build t _=>zOK P t
 |.buildSlice t n _=>match sliceE P t with
  |some u=>zOK P u&&Nat.blt n 1000000
  |none=>false
 |.fieldAddr _ _ _=>true
 |.field _ _ _=>true
 |.indexAddr _ _ _=>true
 |.index _ _ _=>true
 |.extract _ _=>true
 |.makeInterface _ _=>true
 |.makeFunc (.func _) _ _=>true
 |.makeMap _ _=>true
 |.makeSlice t _ c=>match sliceE P t,aev e c with
  |some u,.int _ (.ofNat m)=>zOK P u&&Nat.blt m 1000000
  |_,_=>false
 |.lookup t _ k _=>match P.underlying t with
  |some (.map _ u)=>zOK P u&&scal (aev e k)
  |_=>false
 |.mapUpdate _ _ k _=>scal (aev e k)
 |.insert _ _ k _=>scal (aev e k)
 |.range _ _=>true
 |.next _ _=>true
 |.entry _=>true
 |.typeAssert _x _ t true=>zOK P t
 |.typeAssert x _ t false=>match aev e x with
  |.iface u _=>Nat.beq u t&&(match P.underlying t with
   |some (.interface _)=>false
   |some _=>true
   |none=>false)
  |_=>false
 |.nilCheck x=>match aev e x with
  |.func (.method _) _ _=>false
  |_=>true
 |.call ⟨.builtin .len,args,_⟩=>Nat.beq args.size 1
 |.call ⟨.builtin .clear,args,at_⟩=>Nat.beq args.size 1&&(match at_.toList with
  |[u]=>match sliceE P u with
   |some e=>zOK P e
   |none=>true
  |_=>false)
 |.call ⟨.builtin .delete,args,_⟩=>match args.toList with
  |[_,k]=>scal (aev e k)
  |_=>false
 |_=>false
def toOO:AO Next→Option OO
 |.ok (.value v)=>some (.value v)
 |.ok .skip=>some .skip
 |.panic v=>some (.panic v)
 |_=>none
section
variable (P:Program) (n0:Nat)
/-- by its own tree -/
def eS (e:Tr Value) (o:Oper) (s:AS):Option (OO×AS):=match sok P e o.op with
 |true=>match okXs n0 o.op.operands with
  |true=>match arun P (execOp (aev e) o) s with
   |some (r,s')=>match toOO r with
    |some r=>some (r,s')
    |none=>none
   |none=>none
  |false=>none
 |false=>none
def isFlatV:OO→Bool
 |.value v=>flat v
 |.panic v=>flat v
 |.skip=>true
 |_=>false
/-- without memory -/
def eF (e:Tr Value) (o:Oper) (s:AS):Option (OO×AS):=match o.op.operands.toList.all (fun x=>flat (aev e x)) with
 |true=>match prun P (execOp (aev e) o) with
  |some r=>match toOO r with
   |some r=>match isFlatV r with
    |true=>some (r,s)
    |false=>none
   |none=>none
  |none=>none
 |false=>none
def eM (e:Tr Value) (x:Operand) (s:AS):Option (OO×AS):=match okX n0 x with
 |true=>some (.value (aev e x),s)
 |false=>none
/-- whether a value is nil, of two of which one is -/
def nilEq:Value→Value→Option Bool
 |.pointer none,.pointer b=>some b.isNone
 |.pointer (some _),.pointer none=>some false
 |.slice none _ _,.slice b _ _=>some b.isNone
 |.slice (some _) _ _,.slice none _ _=>some false
 |.map none,.map b=>some b.isNone
 |.map (some _),.map none=>some false
 |.func _ _ _,.nilFunc=>some false
 |.nilFunc,.func _ _ _=>some false
 |.iface _ _,.nilIface=>some false
 |.nilIface,.iface _ _=>some false
 |_,_=>none
def kindOK:Option TypeDesc→Value→Bool
 |some (.pointer _),.pointer _=>true
 |some (.slice _),.slice _ _ _=>true
 |some (.map _ _),.map _=>true
 |some (.func _ _ _),.func _ _ _=>true
 |some (.func _ _ _),.nilFunc=>true
 |some (.interface _),.iface _ _=>true
 |some (.interface _),.nilIface=>true
 |_,_=>false
def eN (e:Tr Value) (op:BinOp) (t:TypeId) (x y:Operand) (s:AS):Option (OO×AS):=match okX n0 x&&okX n0 y&&kindOK (P.underlying t) (aev e x)&&kindOK (P.underlying t) (aev e y) with
 |true=>match nilEq (aev e x) (aev e y) with
  |some b=>match op with
   |.eql=>some (.value (.bool b),s)
   |.neq=>some (.value (.bool (!b)),s)
   |_=>none
  |none=>none
 |false=>none
def natOf:Option Value→Nat→Option Nat
 |none,d=>some d
 |some (.int _ (.ofNat n)),_=>some n
 |_,_=>none
/-- a part of a row -/
def eSl (e:Tr Value) (t:TypeId) (x:Operand) (lo hi:Option Operand) (s:AS):Option (OO×AS):=match aev e x with
 |.slice (some a) l c=>match sliceE P t,natOf (lo.map (aev e)) 0,natOf (hi.map (aev e)) l,okXs n0 (#[x]++lo.toArray++hi.toArray) with
  |some u,some i,some j,true=>match Nat.beq c LOO with
   |true=>match Nat.ble i j&&Nat.ble j l&&(Nat.beq i 0||Nat.blt i l)&&Nat.ble 1 (P.cellsOf u) with
    |true=>sq (i*P.cellsOf u) fun k=>sq (j-i) fun m=>some (.value (.slice (some (a.add k)) m LOO),s)
    |false=>none
   |false=>match Nat.ble i j&&Nat.ble j c&&Nat.ble 1 (P.cellsOf u)&&Nat.blt c LOO with
    |true=>sq (i*P.cellsOf u) fun k=>sq (j-i) fun m=>sq (c-i) fun q=>some (.value (.slice (some (cond (Nat.beq c i) a (a.add k))) m q),s)
    |false=>none
  |_,_,_,_=>none
 |_=>none
def lenV:Value→Option Nat
 |.slice _ n _=>some n
 |.string b=>some b.size
 |_=>none
/-- what is appended, as cells; and the block that is read -/
def rowV (s:AS) (n k:Nat):Value→Option (Array Value×Nat)
 |.slice (some a) _ _=>match s.heap.get a.block,a.spot with
  |some (.cells c _ _),none=>match Nat.ble (a.off+k) c.size with
   |true=>some (⟨(c.toList.drop a.off).take k⟩,bit a.block)
   |false=>none
  |_,_=>none
 |.slice none _ _=>match Nat.beq k 0 with
  |true=>some (#[],0)
  |false=>none
 |.string b=>some ((b.extract 0 n).data.map (fun b=> .int .u8 b.toNat),0)
 |_=>none
def one1:Value→Bool
 |.agg _=>false
 |.tuple _=>false
 |_=>true
def notInt (P:Program) (t:TypeId):Bool:=match P.underlying t with
 |some (.slice _)=>true
 |some .string=>true
 |_=>false
def zC (P:Program) (u:TypeId):Bool:=match P.info? u with
 |some i=>match i.zero with
  |some z=>flat z&&Nat.beq z.cells.size i.size
  |none=>false
 |none=>false
/-- a row behind another one -/
def eA (e:Tr Value) (at_:Array TypeId) (args:Array Operand) (s:AS):Option (OO×AS):=match args.toList,at_.toList with
 |[so,xo],[t,t2]=>match okX n0 so&&okX n0 xo&&notInt P t2,sliceE P t,aev e so,lenV (aev e xo) with
  |true,some u,.slice base l c,some n=>match zC P u&&Nat.ble 1 (P.cellsOf u)&&Nat.ble (P.bytesOf u) 4096&&Nat.ble (l+n) 1000000 with
   |true=>match Nat.beq n 0 with
    |true=>match Nat.ble l c with
     |true=>some (.value (.slice base l c),s)
     |false=>none
    |false=>match rowV s l (l*P.cellsOf u) (.slice base l c),rowV s n (n*P.cellsOf u) (aev e xo) with
     |some (o,m1),some (w,m2)=>match Nat.beq o.size (l*P.cellsOf u)&&Nat.beq w.size (n*P.cellsOf u)&&w.toList.all one1 with
      |true=>match Nat.beq c LOO with
       |true=>match base with
        |some a=>match s.heap.get a.block,Nat.beq a.off 0 with
         |some (.cells _ t' (0,0)),true=>match Nat.beq t' u with
          |true=>sq (s.next+1) fun nx=>sq (s.rd|||m2) fun rd=>sq (s.wr|||bit a.block) fun wr=>sq (l+n) fun m=>some (.value (.slice (some ⟨s.next,0,none⟩) m LOO),{heap:=(s.heap.set s.next (some (.cells (o++w) u))).set a.block none,next:=nx,rd:=rd,wr:=wr})
          |false=>none
         |_,_=>none
        |none=>none
       |false=>match Nat.ble (l+n) c with
        |true=>match base with
         |some a=>match s.heap.get a.block with
          |some (.cells q t' (0,0))=>match Nat.ble (a.off+(l+n)*P.cellsOf u) q.size with
           |true=>sq (s.rd|||m2) fun rd=>sq (s.wr|||bit a.block) fun wr=>sq (l+n) fun m=>some (.value (.slice base m c),{s with heap:=s.heap.set a.block (some (.cells ⟨q.toList.take (a.off+l*P.cellsOf u)++w.toList++q.toList.drop (a.off+(l+n)*P.cellsOf u)⟩ t')),rd:=rd,wr:=wr})
           |false=>none
          |_=>none
         |none=>none
        |false=>sq (s.next+1) fun nx=>sq (s.rd|||(m1|||m2)) fun rd=>sq (l+n) fun m=>some (.value (.slice (some ⟨s.next,0,none⟩) m LOO),{s with heap:=s.heap.set s.next (some (.cells (o++w) u)),next:=nx,rd:=rd})
      |false=>none
     |_,_=>none
   |false=>none
  |_,_,_,_=>none
 |_,_=>none
def isInt (P:Program) (t:TypeId):Bool:=match P.underlying t with
 |some (.int _)=>true
 |_=>false
def zcA (P:Program) (u:TypeId):Option (Array Value):=match P.info? u with
 |some i=>match i.zero with
  |some z=>some z.cells
  |none=>none
 |none=>none
/-- zeros behind a row -/
def eZ (e:Tr Value) (at_:Array TypeId) (args:Array Operand) (s:AS):Option (OO×AS):=match args.toList,at_.toList with
 |[so,xo],[t,t2]=>match okX n0 so&&okX n0 xo&&isInt P t2,sliceE P t,aev e so,aev e xo with
  |true,some u,.slice base l c,.int _ (.ofNat n)=>match zC P u&&Nat.ble 1 (P.cellsOf u)&&Nat.ble (P.bytesOf u) 4096&&Nat.ble (l+n) 1000000&&Nat.ble 1 n&&Nat.blt c (l+n) with
   |true=>match rowV s l (l*P.cellsOf u) (.slice base l c),zcA P u with
    |some (o,m1),some zc=>match Nat.beq o.size (l*P.cellsOf u) with
     |true=>sq (s.next+1) fun nx=>sq (s.rd|||m1) fun rd=>sq (l+n) fun m=>some (.value (.slice (some ⟨s.next,0,none⟩) m LOO),{s with heap:=s.heap.set s.next (some (.cells (o++Builtin.zeroCells zc n) u)),next:=nx,rd:=rd})
     |false=>none
    |_,_=>none
   |false=>none
  |_,_,_,_=>none
 |_,_=>none
/-- a pointer turned to unsafe.Pointer and back -/
def eCv (e:Tr Value) (st dt:TypeId) (x:Operand) (s:AS):Option (OO×AS):=match okX n0 x with
 |true=>match aev e x with
  |.pointer (some ⟨b,0,none⟩)=>match s.heap.get b with
   |some (.cells c t _)=>match P.underlying st with
    |some (.pointer u)=>match P.underlying dt with
     |some .unsafePointer=>match P.info? u with
      |some j=>match Nat.ble 1 j.size&&Nat.ble 1 c.size with
       |true=>sq (s.rd|||bit b) fun rd=>some (.value (.pointer (some ⟨b,0,none⟩)),{s with rd:=rd})
       |false=>none
      |none=>none
     |_=>none
    |some .unsafePointer=>match P.underlying dt with
     |some (.pointer u)=>match P.info? u with
      |some _=>match Nat.beq t u&&Nat.ble 1 (P.cellsOf t)&&Nat.ble (P.cellsOf t) c.size with
       |true=>sq (s.rd|||bit b) fun rd=>some (.value (.pointer (some ⟨b,0,none⟩)),{s with rd:=rd})
       |false=>none
      |none=>none
     |_=>none
    |_=>none
   |_=>none
  |_=>none
 |false=>none
def isNE (P:Program) (g:Nat):Bool:=match P.funcs[g]? with
 |some fn=>match fn.body with
  |none=>fn.name== "internal/abi.NoEscape"&&fn.origin== ""
  |some _=>false
 |none=>false
/-- internal/abi.NoEscape -/
def eNe (e:Tr Value) (c:Call) (s:AS):Option (OO×AS):=match c.callee,c.args.toList with
 |.value f,[x]=>match okX n0 f&&okX n0 x with
  |true=>match aev e f with
   |.func (.func g) first cap=>match Nat.beq first.size 0&&Nat.beq cap.size 0&&isNE P g with
    |true=>some (.value (aev e x),s)
    |false=>none
   |_=>none
  |false=>none
 |_,_=>none
/-- a pointer held against itself -/
def ePq (e:Tr Value) (op:BinOp) (t:TypeId) (x y:Operand) (s:AS):Option (OO×AS):=match okX n0 x&&okX n0 y with
 |true=>match aev e x with
  |.pointer (some ⟨b,o,none⟩)=>match aev e y with
   |.pointer (some ⟨b2,o2,none⟩)=>match s.heap.get b with
    |some (.cells _ _ _)=>match P.underlying t with
     |some (.pointer u)=>match P.info? u with
      |some _=>match Nat.beq b b2&&Nat.beq o o2 with
       |true=>match op with
        |.eql=>sq (s.rd|||bit b) fun rd=>some (.value (.bool true),{s with rd:=rd})
        |.neq=>sq (s.rd|||bit b) fun rd=>some (.value (.bool false),{s with rd:=rd})
        |_=>none
       |false=>none
      |none=>none
     |_=>none
    |_=>none
   |_=>none
  |_=>none
 |false=>none
/-- unsafe.SliceData -/
def eSD (e:Tr Value) (args:Array Operand) (s:AS):Option (OO×AS):=match args.toList with
 |[x]=>match okX n0 x with
  |true=>match aev e x with
   |.slice none _ _=>some (.value (.pointer none),s)
   |.slice (some a) l c=>match Nat.ble 1 l&&Nat.ble 1 c with
    |true=>some (.value (.pointer (some a)),s)
    |false=>none
   |_=>none
  |false=>none
 |_=>none
def bytesV:List Value→Option (List UInt8)
 |[]=>some []
 |v::r=>match v with
  |.int .u8 (.ofNat n)=>match Nat.blt n 256 with
   |true=>match bytesV r with
    |some l=>some (UInt8.ofNat n::l)
    |none=>none
   |false=>none
  |_=>none
/-- unsafe.String: the row is lost -/
def eUS (e:Tr Value) (at_:Array TypeId) (args:Array Operand) (s:AS):Option (OO×AS):=match args.toList,at_.toList with
 |[x,y],[pt,_]=>match okX n0 x&&okX n0 y with
  |true=>match aev e y with
   |.int .i64 (.ofNat 0)=>match aev e x with
    |.pointer _=>some (.value (.string .empty),s)
    |_=>none
   |.int .i64 (.ofNat (m+1))=>match aev e x with
    |.pointer (some ⟨b,0,none⟩)=>match s.heap.get b with
     |some (.cells c t _)=>match P.underlying pt with
      |some (.pointer u)=>match Nat.beq t u&&Nat.beq (P.cellsOf t) 1&&Nat.ble (m+1) c.size&&Nat.blt (m+1) 1000000 with
       |true=>match bytesV (c.toList.take (m+1)) with
        |some l=>sq (s.wr|||bit b) fun wr=>some (.value (.string ⟨⟨l⟩⟩),{s with heap:=s.heap.set b none,wr:=wr})
        |none=>none
       |false=>none
      |_=>none
     |_=>none
    |_=>none
   |_=>none
  |false=>none
 |_,_=>none
def hasBody (P:Program) (g:Nat):Bool:=match P.funcs[g]? with
 |some fn=>fn.body.isSome&& !(fn.name== "runtime.NumGoroutine")
 |none=>false
/-- a call -/
def eC (e:Tr Value) (c:Call) (s:AS):Option (OO×AS):=match c.callee with
 |.value f=>match okX n0 f&&okXs n0 c.args with
  |true=>match aev e f with
   |.func (.func g) first cap=>match hasBody P g with
    |true=>some (.enter (.func g) (first++c.args.map (aev e)++cap),s)
    |false=>none
   |.func (.yield l) first _=>some (.enter (.yield l) (first++c.args.map (aev e)),s)
   |_=>none
  |false=>none
 |_=>none
/-- a call put off -/
def eDf (e:Tr Value) (c:Call) (s:AS):Option (OO×AS):=match c.callee with
 |.value f=>match okX n0 f&&okXs n0 c.args with
  |true=>match aev e f with
   |.func (.func g) first cap=>match hasBody P g with
    |true=>some (.defer g (first++c.args.map (aev e)++cap),s)
    |false=>none
   |_=>none
  |false=>none
 |_=>none
/-- a type's cells, where it has parts -/
def aggN (P:Program) (t:TypeId):Option (Option Nat):=match P.underlying t,P.info? t with
 |some (.struct _),some i=>some (some i.size)
 |some (.array _ _),some i=>some (some i.size)
 |some _,some _=>some none
 |_,_=>none
def isPl:TypeDesc→Bool
 |.struct _=>false
 |.array _ _=>false
 |_=>true
/-- what lies at an address -/
def eLd (e:Tr Value) (t:TypeId) (x:Operand) (s:AS):Option (OO×AS):=match okX n0 x with
 |true=>match aev e x with
  |.pointer (some a)=>match s.heap.get a.block,a.spot with
   |some (.cells c _ _),none=>match aggN P t with
    |some (some n)=>match Nat.ble 1 n&&Nat.ble (a.off+n) c.size with
     |true=>sq (s.rd|||bit a.block) fun rd=>some (.value (.agg ⟨(c.toList.drop a.off).take n⟩),{s with rd:=rd})
     |false=>none
    |_=>none
   |_,_=>none
  |_=>none
 |false=>none
/-- the store of a value with parts -/
def eSt (e:Tr Value) (t:TypeId) (x v:Operand) (s:AS):Option (OO×AS):=match okX n0 x&&okX n0 v with
 |true=>match aev e x,aev e v with
  |.pointer (some a),.agg cs=>match s.heap.get a.block,a.spot,P.info? t with
   |some (.cells c t' (0,0)),none,some i=>match Nat.beq cs.size i.size&&Nat.ble 1 i.size&&Nat.ble (a.off+i.size) c.size&&cs.toList.all one1 with
    |true=>sq (s.wr|||bit a.block) fun wr=>some (.skip,{s with heap:=s.heap.set a.block (some (.cells ⟨c.toList.take a.off++cs.toList++c.toList.drop (a.off+i.size)⟩ t')),wr:=wr})
    |false=>none
   |_,_,_=>none
  |_,_=>none
 |false=>none
/-- the quick ways -/
def ikn:IntKind→Nat
 |.i8=>0
 |.i16=>1
 |.i32=>2
 |.i64=>3
 |.u8=>4
 |.u16=>5
 |.u32=>6
 |.u64=>7
def cmpB (op:BinOp) (a b:Nat):Option Bool:=match op with
 |.eql=>some (Nat.beq a b)
 |.neq=>some (!Nat.beq a b)
 |.lss=>some (Nat.blt a b)
 |.leq=>some (Nat.ble a b)
 |.gtr=>some (Nat.blt b a)
 |.geq=>some (Nat.ble b a)
 |_=>none
def addB (op:BinOp) (a b:Nat) (s:AS):Option (OO×AS):=match op with
 |.add=>match Nat.blt (a+b) 9223372036854775808 with
  |true=>sq (a+b) fun n=>some (.value (.int .i64 (.ofNat n)),s)
  |false=>none
 |.sub=>match Nat.ble b a&&Nat.blt a 9223372036854775808 with
  |true=>sq (a-b) fun n=>some (.value (.int .i64 (.ofNat n)),s)
  |false=>none
 |_=>none
def eB (op:BinOp) (x y:Value) (s:AS):Option (OO×AS):=match x with
 |.int k (.ofNat a)=>match y with
  |.int k' (.ofNat b)=>match Nat.beq (ikn k) (ikn k') with
   |true=>match cmpB op a b with
    |some c=>some (.value (.bool c),s)
    |none=>match Nat.beq (ikn k) 3 with
     |true=>addB op a b s
     |false=>none
   |false=>none
  |_=>none
 |_=>none
def isS (P:Program) (t:TypeId):Bool:=match aggN P t with
 |some none=>true
 |_=>false
def eL1 (e:Tr Value) (t:TypeId) (x:Operand) (s:AS):Option (OO×AS):=match okX n0 x with
 |true=>match aev e x with
  |.pointer (some ⟨b,o,none⟩)=>match s.heap.get b with
   |some (.cells c _ _)=>match isS P t with
    |true=>match c.toList.drop o with
     |v::_=>sq (s.rd|||bit b) fun rd=>some (.value v,{s with rd:=rd})
     |[]=>none
    |false=>none
   |_=>none
  |_=>none
 |false=>none
def isS1 (P:Program) (t:TypeId):Bool:=match P.info? t with
 |some i=>Nat.beq i.size 1
 |none=>false
def eT1 (e:Tr Value) (t:TypeId) (x v:Operand) (s:AS):Option (OO×AS):=match okX n0 x&&okX n0 v with
 |true=>match aev e x with
  |.pointer (some ⟨b,o,none⟩)=>match s.heap.get b with
   |some (.cells c t' (0,0))=>match isS1 P t&&one1 (aev e v) with
    |true=>match Nat.blt o c.size with
     |true=>sq (s.wr|||bit b) fun wr=>some (.skip,{s with heap:=s.heap.set b (some (.cells ⟨c.toList.take o++aev e v::c.toList.drop (o+1)⟩ t')),wr:=wr})
     |false=>none
    |false=>none
   |_=>none
  |_=>none
 |false=>none
def eI1 (e:Tr Value) (t:TypeId) (x i:Operand) (s:AS):Option (OO×AS):=match okX n0 x&&okX n0 i with
 |true=>match aev e x with
  |.slice (some ⟨b,o,none⟩) l _=>match aev e i with
   |.int _ (.ofNat n)=>match sliceE P t with
    |some u=>match P.info? u with
     |some j=>match Nat.blt n l with
      |true=>sq (o+n*j.size) fun m=>some (.value (.pointer (some ⟨b,m,none⟩)),s)
      |false=>none
     |none=>none
    |none=>none
   |_=>none
  |_=>none
 |false=>none
def fldO (P:Program) (t:TypeId) (f:Nat):Option Nat:=match P.underlying t with
 |some (.struct fs)=>match fs[f]? with
  |some q=>match P.info? q.type with
   |some i=>match Nat.beq i.size 0 with
    |true=>none
    |false=>some q.offset
   |none=>none
  |none=>none
 |_=>none
def eF1 (e:Tr Value) (t:TypeId) (x:Operand) (f:Nat) (s:AS):Option (OO×AS):=match okX n0 x with
 |true=>match aev e x with
  |.pointer (some ⟨b,o,none⟩)=>match fldO P t f with
   |some q=>sq (o+q) fun m=>some (.value (.pointer (some ⟨b,m,none⟩)),s)
   |none=>none
  |_=>none
 |false=>none
def isStr (P:Program) (t:TypeId):Bool:=match P.underlying t with
 |some .string=>true
 |_=>false
def eX1 (t:TypeId) (x i:Value) (s:AS):Option (OO×AS):=match x with
 |.string ⟨⟨l⟩⟩=>match i with
  |.int _ (.ofNat n)=>match isStr P t with
   |true=>match l.drop n with
    |b::_=>sq b.toNat fun m=>some (.value (.int .u8 (.ofNat m)),s)
    |[]=>none
   |false=>none
  |_=>none
 |_=>none
def eE1 (e:Tr Value) (x:Operand) (i:Nat) (s:AS):Option (OO×AS):=match okX n0 x with
 |true=>match aev e x with
  |.tuple ⟨l⟩=>match l.drop i with
   |v::_=>some (.value v,s)
   |[]=>none
  |_=>none
 |false=>none
def isLen (P:Program) (t:TypeId) (x:Value):Bool:=match P.underlying t with
 |some .string=>match x with
  |.string _=>true
  |_=>false
 |some (.slice _)=>match x with
  |.slice _ _ _=>true
  |_=>false
 |_=>false
def eN1 (e:Tr Value) (args:Array Operand) (at_:Array TypeId) (s:AS):Option (OO×AS):=match args with
 |⟨[x]⟩=>match at_ with
  |⟨[u]⟩=>match okX n0 x&&isLen P u (aev e x) with
   |true=>match lenV (aev e x) with
    |some n=>sq n fun n=>some (.value (.int .i64 (.ofNat n)),s)
    |none=>none
   |false=>none
  |_=>none
 |_=>none
def zv (P:Program) (t:TypeId):Option Value:=match P.info? t with
 |some i=>match i.zero with
  |some z=>match flat z with
   |true=>some z
   |false=>none
  |none=>none
 |none=>none
def eW1 (t:TypeId) (s:AS):Option (OO×AS):=match zv P t with
 |some z=>sq (s.next+1) fun n=>some (.value (.pointer (some ⟨s.next,0,none⟩)),{s with heap:=s.heap.set s.next (some (.cells z.cells t)),next:=n})
 |none=>none
/-- parts put into a row of zeros -/
def fillQ (n:Nat) (pl:Nat→Option (Nat×Nat)):List Value→List (Nat×Value)→Option (List Value)
 |z,[]=>some z
 |z,(i,v)::r=>match pl i with
  |some (off,size)=>match Nat.beq v.cells.size size&&Nat.ble (off+size) n with
   |true=>fillQ n pl (z.take off++v.cells.toList++z.drop (off+size)) r
   |false=>none
  |none=>none
def plcs (P:Program) (t:TypeId):Option (List (Nat×Nat)):=match P.underlying t with
 |some (.struct fs)=>match fs.toList.all (fun f=>(P.info? f.type).isSome) with
  |true=>some (fs.toList.map fun f=>(f.offset,P.cellsOf f.type))
  |false=>none
 |_=>none
def elsz (P:Program) (t:TypeId):Option Nat:=match P.underlying t with
 |some (.array _ u)=>match P.info? u with
  |some i=>some i.size
  |none=>none
 |_=>none
def bldV (P:Program) (t:TypeId) (ps:List (Nat×Value)):Option Value:=match zv P t with
 |some z=>match plcs P t with
  |some l=>match fillQ z.cells.size (fun i=>l[i]?) z.cells.toList ps with
   |some c=>some (.agg ⟨c⟩)
   |none=>none
  |none=>match elsz P t with
   |some k=>match fillQ z.cells.size (fun i=>some (i*k,k)) z.cells.toList ps with
    |some c=>some (.agg ⟨c⟩)
    |none=>none
   |none=>none
 |none=>none
def cst1:Nat×Operand→Option (Nat×Value)
 |(i,.const v)=>match flat v with
  |true=>some (i,v)
  |false=>none
 |_=>none
def cst:List (Nat×Operand)→Option (List (Nat×Value))
 |[]=>some []
 |p::r=>match cst1 p with
  |some q=>match cst r with
   |some l=>some (q::l)
   |none=>none
  |none=>none
/-- a value of constants: the same wherever it stands -/
def bldC (P:Program) (t:TypeId) (ps:List (Nat×Operand)):Option Value:=match cst ps with
 |some l=>bldV P t l
 |none=>none
def eBu (e:Tr Value) (t:TypeId) (ps:Array (Nat×Operand)) (s:AS):Option (OO×AS):=match bldC P t ps.toList with
 |some v=>some (.value v,s)
 |none=>match ps.toList.all (fun x=>okX n0 x.2) with
  |true=>match bldV P t (ps.toList.map fun x=>(x.1,aev e x.2)) with
   |some v=>some (.value v,s)
   |none=>none
  |false=>none
def eop (e:Tr Value) (o:Oper) (s:AS):Option (OO×AS):=match o.op with
 |.move x=>eM n0 e x s
 |.assign x=>eM n0 e x s
 |.pick c a b=>match aev e c with
  |.bool true=>match okX n0 c&&okX n0 b with
   |true=>eM n0 e a s
   |false=>none
  |.bool false=>match okX n0 c&&okX n0 a with
   |true=>eM n0 e b s
   |false=>none
  |_=>none
 |.binOp op t x y _=>match eB op (aev e x) (aev e y) s with
  |some r=>some r
  |none=>match flat (aev e x)&&flat (aev e y) with
   |true=>eF P e o s
   |false=>match eN P n0 e op t x y s with
    |some r=>some r
    |none=>ePq P n0 e op t x y s
 |.unOp _ _ _=>eF P e o s
 |.convert t u x=>match eF P e o s with
  |some r=>some r
  |none=>eCv P n0 e t u x s
 |.index t x i=>match eX1 P t (aev e x) (aev e i) s with
  |some r=>some r
  |none=>match flat (aev e x) with
   |true=>eF P e o s
   |false=>eS P n0 e o s
 |.slice t x lo hi none=>match flat (aev e x) with
  |true=>eF P e o s
  |false=>eSl P n0 e t x lo hi s
 |.call c=>match c.callee with
  |.builtin .append=>match eA P n0 e c.argTypes c.args s with
   |some r=>some r
   |none=>eZ P n0 e c.argTypes c.args s
  |.builtin .len=>match eN1 P n0 e c.args c.argTypes s with
   |some r=>some r
   |none=>eS P n0 e o s
  |.builtin .clear=>eS P n0 e o s
  |.builtin .delete=>eS P n0 e o s
  |.builtin .min=>eF P e o s
  |.builtin .max=>eF P e o s
  |.builtin .cap=>eF P e o s
  |.builtin .unsafeSliceData=>eSD n0 e c.args s
  |.builtin .unsafeString=>eUS P n0 e c.argTypes c.args s
  |.builtin _=>none
  |_=>match eC P n0 e c s with
   |some x=>some x
   |none=>match eNe P n0 e c s with
    |some x=>some x
    |none=>eF P e o s
 |.load t x=>match eL1 P n0 e t x s with
  |some r=>some r
  |none=>match eLd P n0 e t x s with
   |some r=>some r
   |none=>eS P n0 e o s
 |.store t x v=>match eT1 P n0 e t x v s with
  |some r=>some r
  |none=>match eSt P n0 e t x v s with
   |some r=>some r
   |none=>eS P n0 e o s
 |.indexAddr t x i=>match eI1 P n0 e t x i s with
  |some r=>some r
  |none=>eS P n0 e o s
 |.fieldAddr t x f=>match eF1 P n0 e t x f s with
  |some r=>some r
  |none=>eS P n0 e o s
 |.extract x i=>match eE1 n0 e x i s with
  |some r=>some r
  |none=>eS P n0 e o s
 |.build t ps=>match eBu P n0 e t ps s with
  |some r=>some r
  |none=>eS P n0 e o s
 |.alloc t=>match eW1 P t s with
  |some r=>some r
  |none=>eS P n0 e o s
 |.defer c=>eDf P n0 e c s
 |.panic x=>match aev e x,okX n0 x with
  |.iface t v,true=>some (.panic (.iface t v),s)
  |_,_=>none
 |_=>eS P n0 e o s
end
/-- how code ends -/
inductive AX
 |normal
 |exit (id:Nat)
 |ret
 |panic (v:Value)
inductive CO
 |ret (v:Value)
 |panic (v:Value)
/-- what was put off: the shutting of a loop's block; a call -/
inductive ADef
 |mark (D:Nat)
 |fn (f:FuncId) (args:Array Value)
structure St where
 env:Tr Value
 s:AS
 dfs:List ADef
abbrev ACall:=Fn→Array Value→AS→Option (CO×AS)
section
variable (P:Program) (n0:Nat)
def yld (ops:Array Oper) (e:Tr Value) (j:Nat):Option Bool:=match (ops[j]?).bind (·.dst) with
 |some t=>match e.get t with
  |some (.bool b)=>some b
  |_=>none
 |none=>none
def wnt (ops:Array Oper) (o:Oper) (e:Tr Value):Bool:=match o.guard with
 |none=>true
 |some (j,true)=>match yld ops e j with
  |some b=>b
  |none=>false
 |some (j,false)=>match yld ops e j with
  |some b=> !b
  |none=>false
def aput (size:Nat) (dst:Option Tmp) (v:Value) (st:St):Option (AX×St):=match dst with
 |none=>some (.normal,st)
 |some d=>match Nat.blt d size with
  |true=>fv v fun v=>some (.normal,{st with env:=st.env.set d (some v)})
  |false=>none
def aop1 (call:ACall) (size:Nat) (ops:Array Oper) (dk:Bool) (o:Oper) (st:St):Option (AX×St):=match wnt ops o st.env with
 |true=>match eop P n0 st.env o st.s with
  |some (.value v,s)=>aput size o.dst v {st with s:=s}
  |some (.skip,s)=>aput size o.dst undef {st with s:=s}
  |some (.enter f args,s)=>match call f args s with
   |some (.ret v,s)=>aput size o.dst v {st with s:=s}
   |some (.panic v,s)=>some (.panic v,{st with s:=s})
   |none=>none
  |some (.defer f args,s)=>match dk with
   |true=>aput size o.dst undef {st with s:=s,dfs:=.fn f args::st.dfs}
   |false=>none
  |some (.panic v,s)=>some (.panic v,{st with s:=s})
  |none=>none
 |false=>aput size o.dst undef st
def aops (call:ACall) (size:Nat) (ops:Array Oper) (dk:Bool):List Oper→St→Option (AX×St)
 |[],st=>some (.normal,st)
 |o::r,st=>match aop1 P n0 call size ops dk o st with
  |some (.normal,st)=>aops call size ops dk r st
  |x=>x
def rng (i j:Nat):Nat:=(bit (j-i)-1)<<<i
/-- a region whose order is drawn: what was read and written by those ahead -/
def adr (call:ACall) (size:Nat) (ops:Array Oper):List (Oper×Nat)→Nat→List (Nat×Nat×Nat)→St→Option (AX×St)
 |[],_,_,st=>some (.normal,st)
 |(o,bf)::r,i,h,st=>match aop1 P n0 call size ops false o {st with s:={st.s with rd:=0,wr:=0}} with
  |some (.normal,st')=>sq (st'.s.wr|||rng st.s.next st'.s.next) fun w=>
   match h.all (fun x=>bf.testBit x.1||(Nat.beq (x.2.2&&&(st'.s.rd|||w)) 0&&Nat.beq (w&&&x.2.1) 0)) with
   |true=>sq (st.s.rd|||st'.s.rd) fun rd=>sq (st.s.wr|||st'.s.wr) fun wr=>adr call size ops r (i+1) ((i,st'.s.rd,w)::h) {st' with s:={st'.s with rd:=rd,wr:=wr}}
   |false=>none
  |some (.panic v,st')=>match h.all (fun x=>bf.testBit x.1||Nat.beq x.2.2 0)&&r.all (fun x=>x.2.testBit i) with
   |true=>sq (st.s.rd|||st'.s.rd) fun rd=>sq (st.s.wr|||st'.s.wr) fun wr=>some (.panic v,{st' with s:={st'.s with rd:=rd,wr:=wr}})
   |false=>none
  |_=>none
def bef (ops:Array Oper) (i j:Nat):Bool:=((Region.before ops).getD i 0).testBit j
def dstAt (ops:Array Oper) (i:Nat):Option Tmp:=(ops[i]?).bind (·.dst)
def wrOf (ops:Array Oper) (t:Tmp):Option Nat:=(List.range ops.size).find? fun i=>dstAt ops i==some t
def rgOK (ops:Array Oper) (size:Nat):Bool:=
 ((List.range ops.size).all fun i=>(dstAt ops i).all fun t=>decide (t<size)&&(wrOf ops t==some i))&&
 ((List.range ops.size).all fun i=>((ops[i]?).map (Oper.looksAt ops)).all fun l=>l.all fun t=>(wrOf ops t).all fun j=>bef ops i j||bef ops j i)&&
 ((List.range ops.size).all fun i=>((ops[i]?).map (·.after.toList)).all fun l=>l.all fun e=> !Region.binds .any e||decide (e.on<i))
def loopN:Nat→(St→Option (AX×St))→St→Option (AX×St)
 |0,_,_=>none
 |n+1,f,st=>match f st with
  |some (.normal,st)=>loopN n f st
  |x=>x
/-- a frame's row of temporaries -/
def arr (size:Nat) (e:Tr Value):Array Value:=⟨(List.range size).map fun t=>(e.get t).getD undef⟩
def acode (call:ACall) (ir:Bool) (size lf:Nat):Code→St→Option (AX×St)
 |.skip,st=>some (.normal,st)
 |.region _ ops false,st=>aops P n0 call size ops (!ir) ops.toList st
 |.region _ ops true,st=>match rgOK ops size with
  |true=>adr P n0 call size ops (ops.toList.zip (Region.before ops).toList) 0 [] st
  |false=>none
 |.seq a b,st=>match acode call ir size lf a st with
  |some (.normal,st)=>acode call ir size lf b st
  |x=>x
 |.cond c x y,st=>match okX n0 c with
  |true=>match aev st.env c with
   |.bool true=>acode call ir size lf x st
   |.bool false=>acode call ir size lf y st
   |_=>none
  |false=>none
 |.block id b,st=>match acode call ir size lf b st with
  |some (.exit i,st)=>match Nat.beq i id with
   |true=>some (.normal,st)
   |false=>some (.exit i,st)
  |x=>x
 |.loop b,st=>loopN lf (acode call ir size lf b) st
 |.rangeFunc g ps asg body,st=>match ir with
  |true=>none
  |false=>match okX n0 g with
   |true=>match aev st.env g with
    |.func (.func gf) first cap=>match hasBody P gf with
     |true=>match arun P (Instr.enterLoop 0 (arr size st.env) ps asg body none) st.s with
      |some (.ok (l,[⟨.collected D,_⟩]),s1)=>match call (.func gf) (first++#[.func (.yield l) #[] #[]]++cap) s1 with
       |some (.ret _,s2)=>match arun P (Instr.endLoop l) s2 with
        |some (.ok none,s3)=>some (.normal,{st with s:=s3,dfs:=.mark D::st.dfs})
        |some (.ok (some .ret),s3)=>some (.ret,{st with s:=s3,dfs:=.mark D::st.dfs})
        |some (.ok (some (.exit i)),s3)=>some (.exit i,{st with s:=s3,dfs:=.mark D::st.dfs})
        |_=>none
       |some (.panic v,s2)=>some (.panic v,{st with s:=s2,dfs:=.mark D::st.dfs})
       |none=>none
      |_=>none
     |false=>none
    |_=>none
   |false=>none
 |.label _,st=>some (.normal,st)
 |.exit id,st=>some (.exit id,st)
 |.ret,st=>some (.ret,st)
 |_,_=>none
def envOf:List Value→Nat→Tr Value→Tr Value
 |[],_,e=>e
 |v::l,i,e=>envOf l (i+1) (e.set i (some v))
def resF (get:Nat→Value) (fn:Func):Sem Value:=do
 let vs←fn.results.mapM fun
  |.tmp t=>pure (get t)
  |.cell a t=>do loadVar t (←asAddr (get a))
 pure (if h:vs.size=1 then vs[0] else .tuple vs)
/-- how a frame stands that is on its way out: it returns; or it panics, caught or not -/
inductive Md
 |ret
 |pan (v:Value) (caught:Bool)
def isRec (o:Oper):Bool:=match o.op with
 |.call ⟨.builtin .recover,_,_⟩=>true
 |_=>false
/-- operations of a call that was put off -/
def adop (size:Nat) (ops:Array Oper):List Oper→Md→St→Option (AX×St×Md)
 |[],m,st=>some (.normal,st,m)
 |o::r,m,st=>match wnt ops o st.env with
  |true=>match isRec o with
   |true=>match m with
    |.pan v false=>match aput size o.dst v st with
     |some (_,st)=>adop size ops r (.pan v true) st
     |none=>none
    |m=>match aput size o.dst .nilIface st with
     |some (_,st)=>adop size ops r m st
     |none=>none
   |false=>match eop P n0 st.env o st.s with
    |some (.value v,s)=>match aput size o.dst v {st with s:=s} with
     |some (_,st)=>adop size ops r m st
     |none=>none
    |some (.skip,s)=>match aput size o.dst undef {st with s:=s} with
     |some (_,st)=>adop size ops r m st
     |none=>none
    |_=>none
  |false=>match aput size o.dst undef st with
   |some (_,st)=>adop size ops r m st
   |none=>none
def hasRec (ops:Array Oper):Bool:=ops.toList.any isRec
def ad0 (call:ACall) (size lf:Nat) (c:Code) (m:Md) (st:St):Option (AX×St×Md):=match acode P n0 call false size lf c st with
 |some (.panic _,_)=>none
 |some (x,st)=>some (x,st,m)
 |none=>none
/-- code of a call that was put off -/
def adcode (call:ACall) (size lf:Nat):Code→Md→St→Option (AX×St×Md)
 |.seq a b,m,st=>match adcode call size lf a m st with
  |some (.normal,st,m)=>adcode call size lf b m st
  |x=>x
 |.cond c x y,m,st=>match okX n0 c with
  |true=>match aev st.env c with
   |.bool true=>adcode call size lf x m st
   |.bool false=>adcode call size lf y m st
   |_=>none
  |false=>none
 |.region id ops false,m,st=>match hasRec ops with
  |true=>adop P n0 size ops ops.toList m st
  |false=>ad0 P n0 call size lf (.region id ops false) m st
 |c,m,st=>ad0 P n0 call size lf c m st
def settl:Md→Md
 |.pan _ true=>.ret
 |m=>m
/-- a call that was put off: it returns nothing that is looked at -/
def adcall (call:ACall) (lf:Nat) (f:FuncId) (args:Array Value) (m:Md) (s:AS):Option (Md×AS):=match P.funcs[f]? with
 |some fn=>match fn.body,fn.results.toList with
  |some c,[]=>match adcode P n0 call (args.size+(fn.ntmps-args.size)) lf c m ⟨envOf args.toList 0 .o,s,[]⟩ with
   |some (.normal,⟨_,s,[]⟩,m)=>some (settl m,s)
   |some (.ret,⟨_,s,[]⟩,m)=>some (settl m,s)
   |_=>none
  |_,_=>none
 |none=>none
/-- the way out of a frame -/
def alv (call:ACall) (lf:Nat):List ADef→Md→AS→Option (Md×AS)
 |[],m,s=>some (m,s)
 |.mark D::l,m,s=>match arun P (Instr.takeDeferred D) s with
  |some (.ok _,s)=>alv call lf l m s
  |_=>none
 |.fn f args::l,m,s=>match adcall P n0 call lf f args m s with
  |some (m,s)=>alv call lf l m s
  |none=>none
def ares1 (e:Tr Value) (x:ResultVar) (s:AS):Option (Value×AS):=match x with
 |.tmp t=>some ((e.get t).getD undef,s)
 |.cell a t=>match eL1 P n0 e t (.tmp a) s with
  |some (.value v,s)=>some (v,s)
  |_=>match eLd P n0 e t (.tmp a) s with
   |some (.value v,s)=>some (v,s)
   |_=>none
def aresL (e:Tr Value):List ResultVar→AS→Option (List Value×AS)
 |[],s=>some ([],s)
 |x::l,s=>match ares1 P n0 e x s with
  |some (v,s)=>match aresL e l s with
   |some (vs,s)=>some (v::vs,s)
   |none=>none
  |none=>none
def ares0 (e:Tr Value) (fn:Func) (s:AS):Option (CO×AS):=match arun P (resF (fun t=>(e.get t).getD undef) fn) s with
 |some (.ok v,s)=>some (.ret v,s)
 |_=>none
def ares (e:Tr Value) (fn:Func) (s:AS):Option (CO×AS):=match aresL P n0 e fn.results.toList s with
 |some ([v],s)=>some (.ret v,s)
 |some (vs,s)=>some (.ret (.tuple ⟨vs⟩),s)
 |none=>ares0 P e fn s
/-- one round of a loop over a function -/
def arnd (call:ACall) (lf:Nat) (l:Nat) (args:Array Value) (s:AS):Option (CO×AS):=match arun P (Instr.getLoop l) s with
 |some (.ok r,s1)=>match Nat.beq args.size r.params.size with
  |true=>match acode P n0 call true r.tmps.size lf r.assign ⟨envOf ((r.params.zip args).foldl (fun tmps (t,a)=>tmps.setIfInBounds t a) r.tmps).toList 0 .o,s1,[]⟩ with
   |some (.normal,st)=>match arun P (Instr.beginRound l) st.s with
    |some (.ok _,s2)=>match acode P n0 call true r.tmps.size lf r.body {st with s:=s2} with
     |some (.normal,st)=>match arun P (Instr.endRound l none) st.s with
      |some (.ok v,s)=>some (.ret v,s)
      |_=>none
     |some (.ret,st)=>match arun P (Instr.endRound l (some .ret)) st.s with
      |some (.ok v,s)=>some (.ret v,s)
      |_=>none
     |some (.exit i,st)=>match arun P (Instr.endRound l (some (.exit i))) st.s with
      |some (.ok v,s)=>some (.ret v,s)
      |_=>none
     |_=>none
    |_=>none
   |_=>none
  |false=>none
 |_=>none
def abody (call:ACall) (lf:Nat) (f:FuncId) (args:Array Value) (s:AS):Option (CO×AS):=match P.funcs[f]? with
 |some fn=>match fn.body with
  |some c=>match acode P n0 call false (args.size+(fn.ntmps-args.size)) lf c ⟨envOf args.toList 0 .o,s,[]⟩ with
   |some (.normal,st)=>match alv P n0 call lf st.dfs .ret st.s with
    |some (.ret,s)=>ares P n0 st.env fn s
    |_=>none
   |some (.ret,st)=>match alv P n0 call lf st.dfs .ret st.s with
    |some (.ret,s)=>ares P n0 st.env fn s
    |_=>none
   |some (.panic v,st)=>match alv P n0 call lf st.dfs (.pan v false) st.s with
    |some (.ret,s)=>match fn.results.toList with
     |[]=>some (.ret (.tuple #[]),s)
     |_=>none
    |some (.pan v false,s)=>some (.panic v,s)
    |_=>none
   |_=>none
  |none=>none
 |none=>none
/-- calls; ext: what is known of some functions from elsewhere -/
def acall (ext:ACall→ACall) (lf:Nat):Nat→ACall
 |0=>fun _ _ _=>none
 |k+1=>fun f args s=>match f with
  |.func f=>match ext (acall ext lf k) (.func f) args s with
   |some r=>some r
   |none=>abody P n0 (acall ext lf k) lf f args s
  |.yield l=>arnd P n0 (acall ext lf k) lf l args s
  |_=>none
end
end
end Go.Proofs.YtmnoaeffocnnmaaGreatDoor

namespace Go.Proofs.YtmnoaeffocnnmaaGreatDoor
noncomputable section
section
variable {P:Program} {n0:Nat} {e:Tr Value} {s s':AS} {r:OO} {o:Oper}
theorem arun_bind {α β:Type} (t:Sem α) (f:α→Sem β):∀(s:AS),arun P (t.bind f) s=(match arun P t s with
 |some (.ok a,s')=>arun P (f a) s'
 |some (.panic v,s')=>some (.panic v,s')
 |none=>none):=by
 induction t with
 |pure a=>intro s;rfl
 |load m a k ih=>
  intro s
  simp only[Sem.bind,arun]
  split<;>try rfl
  split<;>try rfl
  split<;>try rfl
  rw[sq_eq,sq_eq];exact ih _ _
 |store m a v k ih=>
  intro s
  simp only[Sem.bind]
  cases v<;>first|rfl|(simp only[arun];split<;>try rfl
                       split<;>try rfl
                       split<;>try rfl
                       rw[sq_eq,sq_eq];exact ih _)
 |new o k ih=>intro s;simp only[Sem.bind,arun,sq_eq];exact ih _ _
 |shape=>intro s;rfl
 |freeze=>intro s;rfl
 |sys=>intro s;rfl
 |frozen a k ih=>
  intro s
  simp only[Sem.bind,arun]
  split<;>try rfl
  rw[sq_eq,sq_eq];exact ih _ _
 |getObj r k ih=>
  intro s
  simp only[Sem.bind,arun]
  split<;>try rfl
  rw[sq_eq,sq_eq];exact ih _ _
 |setObj r o k ih=>
  intro s
  simp only[Sem.bind,arun]
  split<;>try rfl
  split<;>try rfl
  rw[sq_eq,sq_eq];exact ih _
 |choose q k ih=>
  intro s
  simp only[Sem.bind,arun]
  split
  ·exact ih _ _
  ·rfl
 |program k ih=>intro s;exact ih _ _
 |mark m k ih=>intro s;exact ih _
 |halt x=>intro s;cases x<;>rfl
theorem arun_bnd {α β:Type} (t:Sem α) (f:α→Sem β) {s s':AS} {a:α} (h:arun P t s=some (.ok a,s')):arun P (t>>=f) s=arun P (f a) s':=by
 show arun P (t.bind f) s=_
 rw[arun_bind,h]
theorem lor_lor (m b:Nat):m|||b|||b=m|||b:=Nat.eq_of_testBit_eq fun i=>by rw[Nat.testBit_or,Nat.testBit_or];cases m.testBit i<;>cases b.testBit i<;>rfl
theorem arun_loadCells {a:Addr} (hs:a.spot=none) {c:Array Value} {t:TypeId} {fz:Nat×Nat}:∀(n i:Nat) (acc:Array Value) (s:AS),s.heap.get a.block=some (.cells c t fz)→a.off+i+n≤c.size→
  arun P (loadCellsFrom a i n acc) s=some (.ok ⟨acc.toList++(c.toList.drop (a.off+i)).take n⟩,{s with rd:=if n=0 then s.rd else s.rd|||bit a.block})
 |0,i,acc,s,_,_=>by simp [loadCellsFrom,arun,Pure.pure]
 |n+1,i,acc,s,hg,hl=>by
  have hb:(a.add i).block=a.block:=by unfold Addr.add;split<;>rfl
  have hof:(a.add i).off=a.off+i:=by unfold Addr.add;split<;>simp_all
  have hsp:(a.add i).spot=none:=by unfold Addr.add;split<;>simp_all
  have hv:c[a.off+i]? =some (c[a.off+i]'(by omega)):=Array.getElem?_eq_getElem _
  show arun P (.load _ (a.add i) fun v=>loadCellsFrom a (i+1) n (acc.push v)) s=_
  simp only[arun,hb,hg,hsp,hof,hv,sq_eq]
  have ih:=arun_loadCells hs n (i+1) (acc.push (c[a.off+i]'(by omega))) {s with rd:=s.rd|||bit a.block} hg (by omega)
  rw[ih]
  have hd:c.toList.drop (a.off+i)=c[a.off+i]'(by omega)::c.toList.drop (a.off+(i+1)):=by
   rw[List.drop_eq_getElem_cons (by simp;omega)]
   rfl
  rw[hd,List.take_succ_cons]
  congr 2
  ·simp
  ·congr 1
   split
   ·simp
   ·simp [lor_lor]
def updL (c:Array Value):Nat→List Value→Array Value
 |_,[]=>c
 |k,v::l=>updL (c.setIfInBounds k v) (k+1) l
theorem updL_eq:∀(l:List Value) (c:Array Value) (k:Nat),k+l.length≤c.size→updL c k l=⟨c.toList.take k++l++c.toList.drop (k+l.length)⟩
 |[],c,k,h=>by simp [updL]
 |v::l,c,k,h=>by
  simp only[List.length_cons]at h
  unfold updL
  rw[updL_eq l _ (k+1) (by simp;omega)]
  have hk:k<c.toList.length:=by simp;omega
  have hlt:(c.toList.take k).length=k:=by rw[List.length_take];omega
  rw[Array.toList_setIfInBounds,List.set_eq_take_append_cons_drop,if_pos hk]
  have e1:(c.toList.take k++v::c.toList.drop (k+1)).take (k+1)=c.toList.take k++[v]:=by
   rw[List.take_append,hlt,List.take_of_length_le (by omega),show k+1-k=1 from by omega]
   rfl
  have e2:(c.toList.take k++v::c.toList.drop (k+1)).drop (k+1+l.length)=c.toList.drop (k+(l.length+1)):=by
   rw[List.drop_append,hlt,List.drop_eq_nil_of_le (by omega),List.nil_append,show k+1+l.length-k=l.length+1 from by omega,List.drop_succ_cons,List.drop_drop]
   congr 1;omega
  rw[e1,e2]
  simp
theorem arun_storeCells {a:Addr} (hs:a.spot=none) {t:TypeId}:∀(l:List Value) (i:Nat) (c:Array Value) (s:AS),l≠ []→s.heap.get a.block=some (.cells c t (0,0))→a.off+i+l.length≤c.size→l.all one1=true→
  arun P (storeCells a l i) s=some (.ok (),{s with heap:=s.heap.set a.block (some (.cells (updL c (a.off+i) l) t)),wr:=s.wr|||bit a.block})
 |[],_,_,_,h,_,_,_=>absurd rfl h
 |v::l,i,c,s,_,hg,hl,ho=>by
  simp only[List.length_cons]at hl
  rw[List.all_cons,Bool.and_eq_true]at ho
  have hb:(a.add i).block=a.block:=by unfold Addr.add;split<;>rfl
  have hof:(a.add i).off=a.off+i:=by unfold Addr.add;split<;>simp_all
  have hsp:(a.add i).spot=none:=by unfold Addr.add;split<;>simp_all
  have hv:c[a.off+i]? =some (c[a.off+i]'(by omega)):=Array.getElem?_eq_getElem _
  show arun P (.store _ (a.add i) v (storeCells a l (i+1))) s=_
  have hstep:arun P (.store .plain (a.add i) v (storeCells a l (i+1))) s=arun P (storeCells a l (i+1)) {s with heap:=s.heap.set a.block (some (.cells (c.setIfInBounds (a.off+i) v) t)),wr:=s.wr|||bit a.block}:=by
   cases v<;>first|cases ho.1;done|simp only[arun,hb,hg,hsp,hof,hv,sq_eq]
  rw[hstep]
  cases l with
  |nil=>rfl
  |cons w l=>
   rw[arun_storeCells hs (w::l) (i+1) _ _ (by simp) (by rw[Tr.get_set,if_pos rfl]) (by simp only[List.length_cons,Array.size_setIfInBounds]at hl⊢;omega) ho.2]
   simp only[Tr.set_set,lor_lor]
   rfl
theorem arun_und {t:TypeId} {d:TypeDesc} (h:P.underlying t=some d) (s:AS):arun P (underlying t) s=some (.ok d,s):=by
 unfold underlying
 rw[arun_bnd (P:=P) program _ (s':=s) (a:=P) rfl,h]
 rfl
theorem arun_info {t:TypeId} {i:TypeInfo} (h:P.info? t=some i) (s:AS):arun P (typeInfo t) s=some (.ok i,s):=by
 unfold typeInfo
 rw[arun_bnd (P:=P) program _ (s':=s) (a:=P) rfl,h]
 rfl
theorem arun_size {t:TypeId} {i:TypeInfo} (h:P.info? t=some i) (s:AS):arun P (sizeOf t) s=some (.ok i.size,s):=by
 unfold sizeOf
 rw[arun_bnd _ _ (arun_info h s)]
 rfl
theorem eLd_eS {t:TypeId} {x:Operand} (h:eLd P n0 e t x s=some (r,s')) (ho:o.op= .load t x):eS P n0 e o s=some (r,s'):=by
 unfold eLd at h
 split at h<;>try cases h
 next hx=>
 split at h<;>try cases h
 next a hv=>
 split at h<;>try cases h
 next c t' fz hg hs=>
 split at h<;>try cases h
 next n hn=>
 split at h<;>try cases h
 next hc=>
 rw[Bool.and_eq_true]at hc
 have h1:=Nat.le_of_ble_eq_true hc.1
 have h2:=Nat.le_of_ble_eq_true hc.2
 rw[sq_eq]at h
 cases h
 unfold eS
 rw[ho]
 have hx2:okXs n0 (Op.load t x).operands=true:=by simp [okXs,Op.operands,hx]
 rw[hx2]
 simp only[sok]
 have hagg:arun P (isAgg t) s=some (.ok true,s)∧arun P (sizeOf t) s=some (.ok n,s):=by
  unfold aggN at hn
  split at hn<;>try cases hn
  ·rename_i hu hi
   refine⟨?_,arun_size hi s⟩
   unfold isAgg
   rw[arun_bnd _ _ (arun_und hu s)]
   rfl
  ·rename_i hu hi
   refine⟨?_,arun_size hi s⟩
   unfold isAgg
   rw[arun_bnd _ _ (arun_und hu s)]
   rfl
 have hl:arun P (Instr.loadAt t (aev e x)) s=some (.ok (.agg ⟨(c.toList.drop a.off).take n⟩),{s with rd:=s.rd|||bit a.block}):=by
  unfold Instr.loadAt
  rw[hv,arun_bnd (Instr.sureAddr (.pointer (some a))) _ (s':=s) (a:=a) rfl]
  unfold loadVar
  rw[arun_bnd _ _ hagg.1]
  simp only[if_true]
  rw[arun_bnd _ _ hagg.2]
  unfold loadCells
  have:=arun_loadCells (P:=P) hs n 0 #[] s hg (by omega)
  rw[arun_bnd _ _ this]
  rw[if_neg (by omega)]
  simp
  rfl
 have:arun P (execOp (aev e) o) s=some (.ok (.value (.agg ⟨(c.toList.drop a.off).take n⟩)),{s with rd:=s.rd|||bit a.block}):=by
  unfold execOp
  rw[ho]
  dsimp only
  rw[arun_bnd _ _ hl]
  rfl
 rw[this]
 rfl
theorem eSt_eS {t:TypeId} {x v:Operand} (h:eSt P n0 e t x v s=some (r,s')) (ho:o.op= .store t x v):eS P n0 e o s=some (r,s'):=by
 unfold eSt at h
 split at h<;>try cases h
 next hx=>
 rw[Bool.and_eq_true]at hx
 split at h<;>try cases h
 next a cs hv hw=>
 split at h<;>try cases h
 next c t' i hg hs hi=>
 split at h<;>try cases h
 next hc=>
 simp only[Bool.and_eq_true]at hc
 obtain⟨⟨⟨h1,h2⟩,h3⟩,h4⟩:=hc
 have h1:=Nat.eq_of_beq_eq_true h1
 have h2:=Nat.le_of_ble_eq_true h2
 have h3:=Nat.le_of_ble_eq_true h3
 rw[sq_eq]at h
 cases h
 unfold eS
 rw[ho]
 have hx2:okXs n0 (Op.store t x v).operands=true:=by simp [okXs,Op.operands,hx.1,hx.2]
 rw[hx2]
 simp only[sok]
 have hl:arun P (Instr.storeAt t (aev e x) (aev e v)) s=some (.ok (),{s with heap:=s.heap.set a.block (some (.cells ⟨c.toList.take a.off++cs.toList++c.toList.drop (a.off+i.size)⟩ t')),wr:=s.wr|||bit a.block}):=by
  unfold Instr.storeAt
  rw[hv,hw,arun_bnd (Instr.sureAddr (.pointer (some a))) _ (s':=s) (a:=a) rfl]
  unfold storeVar
  rw[arun_bnd _ _ (arun_size hi s)]
  simp only[Value.cells,h1,ne_eq,not_true,if_false]
  have hlen:cs.toList.length=i.size:=by rw[Array.length_toList,h1]
  rw[arun_storeCells (P:=P) hs cs.toList 0 c s (by intro e;rw[e]at hlen;simp at hlen;omega) hg (by rw[hlen];omega) h4]
  rw[updL_eq _ _ _ (by rw[hlen];omega),hlen]
  rfl
 have:arun P (execOp (aev e) o) s=some (.ok .skip,{s with heap:=s.heap.set a.block (some (.cells ⟨c.toList.take a.off++cs.toList++c.toList.drop (a.off+i.size)⟩ t')),wr:=s.wr|||bit a.block}):=by
  unfold execOp
  rw[ho]
  dsimp only
  rw[arun_bnd _ _ hl]
  rfl
 rw[this]
 rfl
theorem eS_val (hs:sok P e o.op=true) (hx:okXs n0 o.op.operands=true) {v:Value} (h:arun P (execOp (aev e) o) s=some (.ok (.value v),s')):eS P n0 e o s=some (.value v,s'):=by
 unfold eS
 rw[hs,hx]
 dsimp only
 rw[h]
 rfl
theorem eS_skip (hs:sok P e o.op=true) (hx:okXs n0 o.op.operands=true) (h:arun P (execOp (aev e) o) s=some (.ok .skip,s')):eS P n0 e o s=some (.skip,s'):=by
 unfold eS
 rw[hs,hx]
 dsimp only
 rw[h]
 rfl
theorem ikn_inj {k k':IntKind} (h:Nat.beq (ikn k) (ikn k')=true):k=k':=by
 cases k<;>cases k'<;>first|rfl|cases h
theorem cmp_run {op:BinOp} {a b:Nat} {c:Bool} (h:cmpB op a b=some c) (k:IntKind) (t:TypeId):Go.binOp op t (.int k (.ofNat a)) (.int k (.ofNat b))=pure (.bool c):=by
 have hlt:∀m n:Nat,decide ((Int.ofNat m)<(Int.ofNat n))=Nat.blt m n:=fun m n=>by
  cases e:Nat.blt m n with
  |true=>exact decide_eq_true (Int.ofNat_lt.2 (Nat.le_of_ble_eq_true e))
  |false=>
   refine decide_eq_false fun h=>?_
   have:=Nat.ble_eq_true_of_le (Nat.succ_le_of_lt (Int.ofNat_lt.1 h))
   unfold Nat.blt at e
   rw[show n=n from rfl]at e
   rw[e]at this;cases this
 have hle:∀m n:Nat,decide ((Int.ofNat m)≤(Int.ofNat n))=Nat.ble m n:=fun m n=>by
  cases e:Nat.ble m n with
  |true=>exact decide_eq_true (Int.ofNat_le.2 (Nat.le_of_ble_eq_true e))
  |false=>
   refine decide_eq_false fun h=>?_
   have:=Nat.ble_eq_true_of_le (Int.ofNat_le.1 h)
   rw[e]at this;cases this
 have heq:((Int.ofNat a)==(Int.ofNat b))=Nat.beq a b:=by
  cases e:Nat.beq a b with
  |true=>rw[Nat.eq_of_beq_eq_true e];exact beq_self_eq_true _
  |false=>
   rw[beq_eq_false_iff_ne]
   intro h
   have:=Int.ofNat.inj h
   subst this
   rw[Nat.beq_refl]at e;cases e
 have hk: ¬k≠k:=fun h=>h rfl
 cases op<;>cases h
 ·show (if k≠k then _ else Op.intCmp .eql (.ofNat a) (.ofNat b))=_
  rw[if_neg hk];unfold Op.intCmp;dsimp only;rw[heq]
 ·show (if k≠k then _ else Op.intCmp .neq (.ofNat a) (.ofNat b))=_
  rw[if_neg hk];unfold Op.intCmp;dsimp only;rw[bne,heq]
 ·show (if k≠k then _ else Op.intCmp .lss (.ofNat a) (.ofNat b))=_
  rw[if_neg hk];unfold Op.intCmp;dsimp only;rw[hlt]
 ·show (if k≠k then _ else Op.intCmp .leq (.ofNat a) (.ofNat b))=_
  rw[if_neg hk];unfold Op.intCmp;dsimp only;rw[hle]
 ·show (if k≠k then _ else Op.intCmp .gtr (.ofNat a) (.ofNat b))=_
  rw[if_neg hk];unfold Op.intCmp;dsimp only
  rw[show decide ((Int.ofNat a)>(Int.ofNat b))=decide ((Int.ofNat b)<(Int.ofNat a)) from rfl,hlt]
 ·show (if k≠k then _ else Op.intCmp .geq (.ofNat a) (.ofNat b))=_
  rw[if_neg hk];unfold Op.intCmp;dsimp only
  rw[show decide ((Int.ofNat a)≥(Int.ofNat b))=decide ((Int.ofNat b)≤(Int.ofNat a)) from rfl,hle]
theorem wrap64 {m:Nat} (h:m<9223372036854775808):IntKind.i64.wrap (Int.ofNat m)=Int.ofNat m:=by
 have h1:(Int.ofNat m)<9223372036854775808:=Int.ofNat_lt.2 h
 have h0:0≤Int.ofNat m:=Int.natCast_nonneg m
 unfold IntKind.wrap IntKind.bits IntKind.signed
 dsimp only
 have:(Int.ofNat m)%(2^64:Int)=Int.ofNat m:=Int.emod_eq_of_lt h0 (by omega)
 rw[this]
 split
 ·rename_i hc
  simp only[Bool.true_and,decide_eq_true_eq]at hc
  omega
 ·rfl
theorem eB_eF {op:BinOp} {t yt:TypeId} {x y:Operand} (h:eB op (aev e x) (aev e y) s=some (r,s')) (ho:o.op= .binOp op t x y yt):eF P e o s=some (r,s'):=by
 unfold eB at h
 split at h<;>try cases h
 next k a hx=>
 split at h<;>try cases h
 next k' b hy=>
 split at h<;>try cases h
 next hk=>
 have hk:=ikn_inj hk
 subst hk
 have key:∀{v:Value},flat v=true→Go.binOp op t (.int k (.ofNat a)) (.int k (.ofNat b))=pure v→eF P e o s=some (.value v,s):=fun {v} hf hb=>by
  have hall:o.op.operands.toList.all (fun x=>flat (aev e x))=true:=by
   rw[ho]
   simp [Op.operands,hx,hy,flat,flatF]
  have hrun:prun P (execOp (aev e) o)=some (.ok (.value v)):=by
   have:execOp (aev e) o=(do let v←Go.binOp op t (.int k (.ofNat a)) (.int k (.ofNat b));pure (.value v)):=by
    unfold execOp
    rw[ho]
    dsimp only
    rw[hx,hy]
    cases op<;>rfl
   rw[this,hb]
   rfl
  unfold eF
  rw[hall]
  dsimp only
  rw[hrun]
  simp [toOO,isFlatV,hf]
 split at h
 ·next c hc=>
  cases h
  exact key rfl (cmp_run hc k t)
 ·split at h<;>try cases h
  next hk3=>
  have hk3:k= .i64:=ikn_inj (k':=.i64) hk3
  subst hk3
  have hkk: ¬IntKind.i64≠IntKind.i64:=fun h=>h rfl
  unfold addB at h
  split at h
  ·split at h<;>try cases h
   next hlt=>
   rw[sq_eq]at h
   cases h
   refine key rfl ?_
   show (if IntKind.i64≠IntKind.i64 then (stuck "BinOp: operands of different kinds":Sem Value) else Op.intArith .add .i64 (.ofNat a) (.ofNat b))=_
   rw[if_neg hkk]
   unfold Op.intArith
   dsimp only
   rw[show Int.ofNat a+Int.ofNat b=Int.ofNat (a+b) from rfl,wrap64 (Nat.le_of_ble_eq_true hlt)]
  ·split at h<;>try cases h
   next hlt=>
   rw[sq_eq]at h
   cases h
   rw[Bool.and_eq_true]at hlt
   have h1:=Nat.le_of_ble_eq_true hlt.1
   have h2:a<9223372036854775808:=Nat.le_of_ble_eq_true hlt.2
   refine key rfl ?_
   show (if IntKind.i64≠IntKind.i64 then (stuck "BinOp: operands of different kinds":Sem Value) else Op.intArith .sub .i64 (.ofNat a) (.ofNat b))=_
   rw[if_neg hkk]
   unfold Op.intArith
   dsimp only
   rw[show Int.ofNat a-Int.ofNat b=Int.ofNat (a-b) from (Int.ofNat_sub h1).symm,wrap64 (by omega)]
  ·cases h
theorem drop_get {α:Type} {l:List α} {n:Nat} {v:α} {r:List α} (h:l.drop n=v::r):l[n]? =some v:=by
 have:(l.drop n)[0]? =some v:=by rw[h];rfl
 rw[List.getElem?_drop]at this
 simpa using this
theorem eL1_eS {t:TypeId} {x:Operand} (h:eL1 P n0 e t x s=some (r,s')) (ho:o.op= .load t x):eS P n0 e o s=some (r,s'):=by
 unfold eL1 at h
 split at h<;>try cases h
 next hx=>
 split at h<;>try cases h
 next b of hv=>
 split at h<;>try cases h
 next c t' fz hg=>
 split at h<;>try cases h
 next hn=>
 split at h<;>try cases h
 next v rest hc=>
 have hc:c[of]? =some v:=by rw[←Array.getElem?_toList];exact drop_get hc
 rw[sq_eq]at h
 cases h
 refine eS_val (by rw[ho];rfl) (by rw[ho];simp [okXs,Op.operands,hx]) ?_
 have hagg:arun P (isAgg t) s=some (.ok false,s):=by
  unfold isS at hn
  split at hn<;>try cases hn
  rename_i hn
  unfold aggN at hn
  split at hn<;>try cases hn
  next d i h1 h2 hu hi=>
  unfold isAgg
  rw[arun_bnd _ _ (arun_und hu s)]
  split
  ·exact absurd rfl (h1 _)
  ·exact absurd rfl (h2 _ _)
  ·rfl
 unfold execOp
 rw[ho]
 dsimp only
 have hl:arun P (Instr.loadAt t (aev e x)) s=some (.ok v,{s with rd:=s.rd|||bit b}):=by
  unfold Instr.loadAt
  rw[hv,arun_bnd (Instr.sureAddr (.pointer (some ⟨b,of,none⟩))) _ (s':=s) (a:=⟨b,of,none⟩) rfl]
  unfold loadVar
  rw[arun_bnd _ _ hagg]
  simp only[Bool.false_eq_true,if_false]
  show arun P (.load _ ⟨b,of,none⟩ fun v=>.pure v) s=_
  simp only[arun,hg,hc,sq_eq]
 rw[arun_bnd _ _ hl]
 rfl
theorem eT1_eS {t:TypeId} {x v:Operand} (h:eT1 P n0 e t x v s=some (r,s')) (ho:o.op= .store t x v):eS P n0 e o s=some (r,s'):=by
 unfold eT1 at h
 split at h<;>try cases h
 next hx=>
 rw[Bool.and_eq_true]at hx
 split at h<;>try cases h
 next b of hv=>
 split at h<;>try cases h
 next c t' hg=>
 split at h<;>try cases h
 next hc=>
 rw[Bool.and_eq_true]at hc
 split at h<;>try cases h
 next hlt=>
 have hlt:of<c.size:=Nat.le_of_ble_eq_true hlt
 rw[sq_eq]at h
 cases h
 refine eS_skip (by rw[ho];rfl) (by rw[ho];simp [okXs,Op.operands,hx.1,hx.2]) ?_
 have hi:∃i,P.info? t=some i∧i.size=1:=by
  have h1:=hc.1
  unfold isS1 at h1
  split at h1
  ·rename_i i hi;exact⟨i,hi,Nat.eq_of_beq_eq_true h1⟩
  ·cases h1
 obtain⟨i,hi,h1⟩:=hi
 have hcells:(aev e v).cells=#[aev e v]:=by
  have h2:=hc.2
  generalize aev e v=u at h2
  cases u<;>first|rfl|cases h2
 unfold execOp
 rw[ho]
 dsimp only
 have hl:arun P (Instr.storeAt t (aev e x) (aev e v)) s=some (.ok (),{s with heap:=s.heap.set b (some (.cells ⟨c.toList.take of++aev e v::c.toList.drop (of+1)⟩ t')),wr:=s.wr|||bit b}):=by
  unfold Instr.storeAt
  rw[hv,arun_bnd (Instr.sureAddr (.pointer (some ⟨b,of,none⟩))) _ (s':=s) (a:=⟨b,of,none⟩) rfl]
  unfold storeVar
  rw[arun_bnd _ _ (arun_size hi s),hcells,h1]
  simp only[List.size_toArray,List.length_cons,List.length_nil,Nat.zero_add,ne_eq,not_true,if_false]
  rw[arun_storeCells (P:=P) (a:=⟨b,of,none⟩) rfl [aev e v] 0 c s (by simp) hg (by simp;omega) (by simp [hc.2])]
  rw[updL_eq _ _ _ (by simp;omega)]
  simp
 rw[arun_bnd _ _ hl]
 rfl
theorem eI1_eS {t:TypeId} {x i:Operand} (h:eI1 P n0 e t x i s=some (r,s')) (ho:o.op= .indexAddr t x i):eS P n0 e o s=some (r,s'):=by
 unfold eI1 at h
 split at h<;>try cases h
 next hx=>
 rw[Bool.and_eq_true]at hx
 split at h<;>try cases h
 next b of l cc hv=>
 split at h<;>try cases h
 next k n hw=>
 split at h<;>try cases h
 next u hu=>
 split at h<;>try cases h
 next j hj=>
 split at h<;>try cases h
 next hlt=>
 have hlt:n<l:=Nat.le_of_ble_eq_true hlt
 rw[sq_eq]at h
 cases h
 refine eS_val (by rw[ho];rfl) (by rw[ho];simp [okXs,Op.operands,hx.1,hx.2]) ?_
 have hu:P.underlying t=some (.slice u):=by
  unfold sliceE at hu
  split at hu
  ·cases hu;assumption
  ·cases hu
 unfold execOp
 rw[ho]
 dsimp only
 have hl:arun P (Instr.indexAt t (aev e x) (aev e i)) s=some (.ok (.pointer (some ⟨b,of+n*j.size,none⟩)),s):=by
  unfold Instr.indexAt
  rw[hv,hw,arun_bnd (asIntOf (.int k (.ofNat n))) _ (s':=s) (a:=(k,.ofNat n)) rfl]
  dsimp only
  rw[arun_bnd _ _ (arun_und hu s)]
  dsimp only
  rw[arun_bnd (pure ((some ⟨b,of,none⟩:Option Addr),(l,u)):Sem (Option Addr×Nat×TypeId)) _ (s':=s) (a:=((some ⟨b,of,none⟩:Option Addr),(l,u))) rfl]
  dsimp only
  rw[arun_bnd _ _ (arun_und hu s)]
  dsimp only
  rw[if_pos ⟨Int.natCast_nonneg n,Int.ofNat_lt.2 hlt⟩,arun_bnd _ _ (arun_size hj s)]
  have:(Addr.add ⟨b,of,none⟩ ((Int.ofNat n).toNat*j.size))=⟨b,of+n*j.size,none⟩:=by
   unfold Addr.add
   split
   ·rename_i h0
    have:n*j.size=0:=h0
    rw[this]
    rfl
   ·rfl
  rw[this]
  rfl
 rw[arun_bnd _ _ hl]
 rfl
theorem eF1_eS {t:TypeId} {x:Operand} {f:Nat} (h:eF1 P n0 e t x f s=some (r,s')) (ho:o.op= .fieldAddr t x f):eS P n0 e o s=some (r,s'):=by
 unfold eF1 at h
 split at h<;>try cases h
 next hx=>
 split at h<;>try cases h
 next b of hv=>
 split at h<;>try cases h
 next q hq=>
 rw[sq_eq]at h
 cases h
 unfold fldO at hq
 split at hq<;>try cases hq
 next fs hu=>
 split at hq<;>try cases hq
 next g hg=>
 split at hq<;>try cases hq
 next i hi=>
 split at hq<;>cases hq
 next hz=>
 have hz:¬i.size=0:=fun e=>by rw[e]at hz;cases hz
 refine eS_val (by rw[ho];rfl) (by rw[ho];simp [okXs,Op.operands,hx]) ?_
 unfold execOp
 rw[ho]
 dsimp only
 have hl:arun P (Instr.fieldAt t (aev e x) f) s=some (.ok (.pointer (some ⟨b,of+g.offset,none⟩)),s):=by
  unfold Instr.fieldAt
  rw[hv,arun_bnd _ _ (arun_und hu s)]
  dsimp only
  rw[hg]
  dsimp only
  rw[arun_bnd (Instr.sureAddr (.pointer (some ⟨b,of,none⟩))) _ (s':=s) (a:=⟨b,of,none⟩) rfl]
  have:arun P (fieldPlace ⟨b,of,none⟩ g) s=some (.ok ⟨b,of+g.offset,none⟩,s):=by
   unfold fieldPlace
   rw[arun_bnd _ _ (arun_size hi s),if_neg hz]
   have:(Addr.add ⟨b,of,none⟩ g.offset)=⟨b,of+g.offset,none⟩:=by
    unfold Addr.add
    split
    ·rename_i h0
     rw[h0]
     rfl
    ·rfl
   rw[this]
   rfl
  rw[arun_bnd _ _ this]
  rfl
 rw[arun_bnd _ _ hl]
 rfl
theorem eE1_eS {x:Operand} {i:Nat} (h:eE1 n0 e x i s=some (r,s')) (ho:o.op= .extract x i):eS P n0 e o s=some (r,s'):=by
 unfold eE1 at h
 split at h<;>try cases h
 next hx=>
 split at h<;>try cases h
 next l hv=>
 split at h<;>cases h
 next v rest hd=>
 refine eS_val (by rw[ho];rfl) (by rw[ho];simp [okXs,Op.operands,hx]) ?_
 unfold execOp
 rw[ho]
 dsimp only
 have:Instr.extract (aev e x) i=pure v:=by
  unfold Instr.extract
  rw[hv]
  dsimp only
  rw[show (⟨l⟩:Array Value)[i]? =some v from by rw[List.getElem?_toArray];exact drop_get hd]
 rw[this]
 rfl
theorem eN1_eS {c:Call} (h:eN1 P n0 e c.args c.argTypes s=some (r,s')) (ho:o.op= .call c) (hc:c.callee= .builtin .len):eS P n0 e o s=some (r,s'):=by
 obtain⟨ce,args,at_⟩:=c
 simp only at hc h
 subst hc
 unfold eN1 at h
 split at h<;>try cases h
 next x=>
 split at h<;>try cases h
 next u=>
 split at h<;>try cases h
 next hx=>
 rw[Bool.and_eq_true]at hx
 split at h<;>try cases h
 next n hn=>
 rw[sq_eq]at h
 cases h
 refine eS_val (by rw[ho];rfl) (by rw[ho];simp [okXs,Op.operands,Call.operands,hx.1]) ?_
 unfold execOp
 rw[ho]
 show arun P (invoke (.builtin .len #[u] o.type (#[x].map fun|.const _=>true|_=>false)) (#[x].map (aev e))) s=_
 have hl:arun P (Builtin.len_ #[u] o.type #[aev e x]) s=some (.ok (.int .i64 (.ofNat n)),s):=by
  have hx:=hx.2
  unfold isLen at hx
  unfold Builtin.len_
  simp only[List.getElem?_toArray,List.getElem?_cons_zero]
  split at hx<;>try cases hx
  ·rename_i hu
   rw[arun_bnd _ _ (arun_und hu s)]
   split at hx<;>cases hx
   rename_i b hv
   rw[hv]at hn⊢
   cases hn
   rfl
  ·rename_i w hu
   rw[arun_bnd _ _ (arun_und hu s)]
   split at hx<;>cases hx
   rename_i a n2 c2 hv
   rw[hv]at hn⊢
   cases hn
   rfl
 have:invoke (.builtin .len #[u] o.type (#[x].map fun|.const _=>true|_=>false)) (#[x].map (aev e))=(do pure (Next.value (←Builtin.len_ #[u] o.type #[aev e x]))):=by
  simp [invoke,builtin]
 rw[this,arun_bnd _ _ hl]
 rfl
theorem eW1_eS {t:TypeId} (h:eW1 P t s=some (r,s')) (ho:o.op= .alloc t):eS P n0 e o s=some (r,s'):=by
 unfold eW1 at h
 split at h<;>try cases h
 next z hz=>
 unfold zv at hz
 split at hz<;>try cases hz
 next i hi=>
 split at hz<;>try cases hz
 next z2 hz2=>
 split at hz<;>cases hz
 next hf=>
 refine eS_val (by rw[ho];show zOK P t=true;unfold zOK;rw[hi];dsimp only;rw[hz2];exact hf) (by rw[ho];simp [okXs,Op.operands]) ?_
 unfold execOp
 rw[ho]
 dsimp only
 have hl:arun P (Instr.alloc t true (.tuple #[])) s=some (.ok (.pointer (some ⟨s.next,0,none⟩)),{s with heap:=s.heap.set s.next (some (.cells z.cells t)),next:=s.next+1}):=by
  unfold Instr.alloc
  have hzz:arun P (zeroValue t) s=some (.ok z,s):=by
   unfold zeroValue
   rw[arun_bnd _ _ (arun_info hi s)]
   rw[hz2]
   rfl
  rw[arun_bnd _ _ hzz]
  dsimp only
  unfold newVar newRow
  show arun P (.new (.cells z.cells t) fun n=>_) s=_
  simp only[arun,sq_eq]
  rfl
 rw[arun_bnd _ _ hl]
 rfl
theorem prun_bnd {α β:Type} (t:Sem α) (f:α→Sem β) {a:α} (h:prun P t=some (.ok a)):prun P (t>>=f)=prun P (f a):=by
 show prun P (t.bind f)=_
 induction t with
 |pure b=>cases h;rfl
 |program k ih=>exact ih P h
 |mark m k ih=>exact ih h
 |halt x=>cases x<;>cases h
 |_=>cases h
theorem eX1_eF {t:TypeId} {x i:Operand} (h:eX1 P t (aev e x) (aev e i) s=some (r,s')) (ho:o.op= .index t x i):eF P e o s=some (r,s'):=by
 unfold eX1 at h
 split at h<;>try cases h
 next l hx=>
 split at h<;>try cases h
 next k n hi=>
 split at h<;>try cases h
 next hs=>
 split at h<;>try cases h
 next b rest hd=>
 rw[sq_eq]at h
 cases h
 have hu:P.underlying t=some .string:=by
  unfold isStr at hs
  split at hs
  ·assumption
  ·cases hs
 have hall:o.op.operands.toList.all (fun x=>flat (aev e x))=true:=by
  rw[ho]
  simp [Op.operands,hx,hi,flat,flatF]
 have hrun:prun P (execOp (aev e) o)=some (.ok (.value (.int .u8 (.ofNat b.toNat)))):=by
  unfold execOp
  rw[ho]
  dsimp only
  rw[hx,hi]
  have hg:(ByteArray.mk ⟨l⟩)[n]? =some b:=by
   have h2:=drop_get hd
   obtain⟨hn,h3⟩:=List.getElem?_eq_some_iff.1 h2
   rw[getElem?_pos (ByteArray.mk ⟨l⟩) n (show n<(ByteArray.mk ⟨l⟩).size from hn)]
   exact congrArg some h3
  have hix:prun P (Instr.index t (.string ⟨⟨l⟩⟩) (.int k (.ofNat n)))=some (.ok (.int .u8 (.ofNat b.toNat))):=by
   unfold Instr.index
   rw[prun_bnd (asIntOf (.int k (.ofNat n))) _ (a:=(k,.ofNat n)) rfl]
   dsimp only
   rw[prun_bnd (underlying t) _ (a:= .string) (by
    unfold underlying
    rw[prun_bnd program _ (a:=P) rfl,hu]
    rfl)]
   dsimp only
   rw[if_pos (show 0≤Int.ofNat n from Int.natCast_nonneg n)]
   rw[show (ByteArray.mk ⟨l⟩)[(Int.ofNat n).toNat]? =some b from hg]
   rfl
  rw[prun_bnd _ _ hix]
  rfl
 unfold eF
 rw[hall]
 dsimp only
 rw[hrun]
 simp [toOO,isFlatV,flat,flatF]
theorem foldZ (off:Nat):∀(l:List Value) (k:Nat) (c:Array Value),(l.zipIdx k).foldl (fun cs (x:Value×Nat)=>cs.setIfInBounds (off+x.2) x.1) c=updL c (off+k) l
 |[],_,_=>rfl
 |v::l,k,c=>by
  rw[List.zipIdx_cons,List.foldl_cons]
  unfold updL
  exact foldZ off l (k+1) _
theorem fillQ_fill (n:Nat) (pl:Nat→Option (Nat×Nat)):∀(ps:List (Nat×Value)) (z c:List Value),z.length=n→fillQ n pl z ps=some c→Instr.fill pl ⟨z⟩ ps=some ⟨c⟩
 |[],z,c,_,h=>by cases h;rfl
 |(i,v)::ps,z,c,hz,h=>by
  unfold fillQ at h
  unfold Instr.fill
  split at h<;>try cases h
  next off size hpl=>
  split at h<;>try cases h
  next hc=>
  rw[Bool.and_eq_true]at hc
  have h1:=Nat.eq_of_beq_eq_true hc.1
  have h2:=Nat.le_of_ble_eq_true hc.2
  rw[hpl]
  dsimp only
  rw[if_neg (by simp only[ne_eq,h1,not_true,decide_false,Bool.false_or,decide_eq_true_eq,List.size_toArray];omega)]
  have hf:v.cells.zipIdx.foldl (fun cs (x:Value×Nat)=>cs.setIfInBounds (off+x.2) x.1) (⟨z⟩:Array Value)=⟨z.take off++v.cells.toList++z.drop (off+size)⟩:=by
   rw[←Array.foldl_toList,Array.toList_zipIdx,foldZ,updL_eq _ _ _ (by rw[Nat.add_zero,Array.length_toList,h1];simp;omega),Nat.add_zero,Array.length_toList,h1]
  have hf2:v.cells.zipIdx.foldl (fun cs (x:Value×Nat)=>match x with|(c,j)=>cs.setIfInBounds (off+j) c) (⟨z⟩:Array Value)=⟨z.take off++v.cells.toList++z.drop (off+size)⟩:=hf
  rw[hf2]
  refine fillQ_fill n pl ps _ c ?_ h
  simp only[List.length_append,List.length_take,List.length_drop,Array.length_toList,h1]
  omega
theorem arun_mapL {α β:Type} {f:α→Sem β} {g:α→β} (s:AS):∀(l:List α),(∀x∈l,arun P (f x) s=some (.ok (g x),s))→arun P (l.mapM f) s=some (.ok (l.map g),s)
 |[],_=>by rw[List.mapM_nil];rfl
 |x::l,h=>by
  rw[List.mapM_cons,arun_bnd _ _ (h x (List.mem_cons_self ..)),arun_bnd _ _ (arun_mapL s l fun y hy=>h y (List.mem_cons_of_mem _ hy))]
  rfl
theorem arun_mapA {α β:Type} {f:α→Sem β} {g:α→β} (s:AS) (l:Array α) (h:∀x∈l.toList,arun P (f x) s=some (.ok (g x),s)):arun P (l.mapM f) s=some (.ok ⟨l.toList.map g⟩,s):=by
 rw[Array.mapM_eq_mapM_toList]
 show arun P (List.mapM f l.toList>>=fun x=>pure x.toArray) s=_
 rw[arun_bnd _ _ (arun_mapL s l.toList h)]
 rfl
theorem bldV_run {t:TypeId} {ps:Array (Nat×Value)} {v:Value} (h:bldV P t ps.toList=some v):arun P (Instr.build t ps) s=some (.ok v,s)∧zOK P t=true:=by
 unfold bldV at h
 split at h<;>try cases h
 next z hz=>
 have hz2:(∃i,P.info? t=some i∧i.zero=some z)∧flat z=true:=by
  unfold zv at hz
  split at hz<;>try cases hz
  next i hi=>
  split at hz<;>try cases hz
  next z2 hz2=>
  split at hz<;>cases hz
  next hf=>exact⟨⟨i,hi,hz2⟩,hf⟩
 obtain⟨⟨i,hi,hiz⟩,hf⟩:=hz2
 have hzz:arun P (zeroValue t) s=some (.ok z,s):=by
  unfold zeroValue
  rw[arun_bnd _ _ (arun_info hi s)]
  rw[hiz]
  rfl
 refine⟨?_,by unfold zOK;rw[hi];dsimp only;rw[hiz];exact hf⟩
 unfold Instr.build
 rw[arun_bnd _ _ hzz]
 split at h
 ·next l hl=>
  split at h<;>cases h
  next c hc=>
  unfold plcs at hl
  split at hl<;>try cases hl
  next fs hu=>
  split at hl<;>cases hl
  next hall=>
  rw[arun_bnd _ _ (arun_und hu s)]
  dsimp only
  have hm:arun P (fs.mapM fun f=>(do pure (f.offset,←sizeOf f.type):Sem (Nat×Nat))) s=some (.ok ⟨fs.toList.map fun f=>(f.offset,P.cellsOf f.type)⟩,s):=arun_mapA s fs fun f hfm=>by
   have:=List.all_eq_true.1 hall f hfm
   obtain⟨j,hj⟩:=Option.isSome_iff_exists.1 this
   rw[arun_bnd _ _ (arun_size hj s)]
   unfold Program.cellsOf
   rw[hj]
   rfl
  rw[arun_bnd _ _ hm]
  have:=fillQ_fill z.cells.size _ ps.toList z.cells.toList c (by simp) hc
  have hp:(fun i=>(⟨fs.toList.map fun f=>(f.offset,P.cellsOf f.type)⟩:Array (Nat×Nat))[i]?)=fun i=>(fs.toList.map fun f=>(f.offset,P.cellsOf f.type))[i]?:=funext fun i=>List.getElem?_toArray
  rw[hp,show (z.cells:Array Value)=⟨z.cells.toList⟩ from rfl,this]
  rfl
 ·split at h<;>try cases h
  next k hk=>
  split at h<;>cases h
  next c hc=>
  unfold elsz at hk
  split at hk<;>try cases hk
  next m u hu=>
  split at hk<;>cases hk
  next j hj=>
  rw[arun_bnd _ _ (arun_und hu s)]
  dsimp only
  rw[arun_bnd _ _ (arun_size hj s)]
  have:=fillQ_fill z.cells.size _ ps.toList z.cells.toList c (by simp) hc
  rw[show (z.cells:Array Value)=⟨z.cells.toList⟩ from rfl,this]
  rfl
theorem cst_eq:∀(ps:List (Nat×Operand)) (l:List (Nat×Value)),cst ps=some l→l=ps.map (fun x=>(x.1,aev e x.2))∧ps.all (fun x=>okX n0 x.2)=true
 |[],l,h=>by cases h;exact⟨rfl,rfl⟩
 |p::ps,l,h=>by
  unfold cst at h
  split at h<;>try cases h
  next q hq=>
  split at h<;>cases h
  next l hl=>
  obtain⟨h1,h2⟩:=cst_eq ps l hl
  obtain⟨i,x⟩:=p
  unfold cst1 at hq
  split at hq<;>try cases hq
  next v heq=>
  cases heq
  split at hq<;>cases hq
  next hf=>
  refine⟨by rw[h1];rfl,?_⟩
  rw[List.all_cons,h2]
  simp [okX,hf]
theorem eBu_eS {t:TypeId} {ps:Array (Nat×Operand)} (h:eBu P n0 e t ps s=some (r,s')) (ho:o.op= .build t ps):eS P n0 e o s=some (r,s'):=by
 have key:∀{v:Value},bldV P t (ps.toList.map fun x=>(x.1,aev e x.2))=some v→ps.toList.all (fun x=>okX n0 x.2)=true→eS P n0 e o s=some (.value v,s):=fun {v} hb hx=>by
  have hm:(ps.map fun (i,x)=>(i,aev e x)).toList=ps.toList.map fun x=>(x.1,aev e x.2):=by simp
  obtain⟨hrun,hz⟩:=bldV_run (P:=P) (s:=s) (t:=t) (ps:=ps.map fun (i,x)=>(i,aev e x)) (v:=v) (by rw[hm];exact hb)
  refine eS_val (by rw[ho];exact hz) (by rw[ho];simpa [okXs,Op.operands] using hx) ?_
  unfold execOp
  rw[ho]
  dsimp only
  rw[arun_bnd _ _ hrun]
  rfl
 unfold eBu at h
 split at h
 ·next v hv=>
  cases h
  unfold bldC at hv
  split at hv<;>try cases hv
  next l hl=>
  obtain⟨h1,h2⟩:=cst_eq (e:=e) (n0:=n0) _ _ hl
  rw[h1]at hv
  exact key hv h2
 ·split at h<;>try cases h
  next hx=>
  split at h<;>cases h
  next v hv=>exact key hv hx
theorem eLd_run {t:TypeId} {x:Operand} (h:eLd P n0 e t x s=some (r,s')):∃v,r= .value v∧arun P (Instr.loadAt t (aev e x)) s=some (.ok v,s'):=by
 unfold eLd at h
 split at h<;>try cases h
 next hx=>
 split at h<;>try cases h
 next a hv=>
 split at h<;>try cases h
 next c t' fz hg hs=>
 split at h<;>try cases h
 next n hn=>
 split at h<;>try cases h
 next hc=>
 rw[Bool.and_eq_true]at hc
 have h1:=Nat.le_of_ble_eq_true hc.1
 have h2:=Nat.le_of_ble_eq_true hc.2
 rw[sq_eq]at h
 cases h
 have hagg:arun P (isAgg t) s=some (.ok true,s)∧arun P (sizeOf t) s=some (.ok n,s):=by
  unfold aggN at hn
  split at hn<;>try cases hn
  ·rename_i hu hi
   refine⟨?_,arun_size hi s⟩
   unfold isAgg
   rw[arun_bnd _ _ (arun_und hu s)]
   rfl
  ·rename_i hu hi
   refine⟨?_,arun_size hi s⟩
   unfold isAgg
   rw[arun_bnd _ _ (arun_und hu s)]
   rfl
 have hl:arun P (Instr.loadAt t (aev e x)) s=some (.ok (.agg ⟨(c.toList.drop a.off).take n⟩),{s with rd:=s.rd|||bit a.block}):=by
  unfold Instr.loadAt
  rw[hv,arun_bnd (Instr.sureAddr (.pointer (some a))) _ (s':=s) (a:=a) rfl]
  unfold loadVar
  rw[arun_bnd _ _ hagg.1]
  simp only[if_true]
  rw[arun_bnd _ _ hagg.2]
  unfold loadCells
  have:=arun_loadCells (P:=P) hs n 0 #[] s hg (by omega)
  rw[arun_bnd _ _ this]
  rw[if_neg (by omega)]
  simp
  rfl
 exact⟨_,rfl,hl⟩
theorem eL1_run {t:TypeId} {x:Operand} (h:eL1 P n0 e t x s=some (r,s')):∃v,r= .value v∧arun P (Instr.loadAt t (aev e x)) s=some (.ok v,s'):=by
 unfold eL1 at h
 split at h<;>try cases h
 next hx=>
 split at h<;>try cases h
 next b of hv=>
 split at h<;>try cases h
 next c t' fz hg=>
 split at h<;>try cases h
 next hn=>
 split at h<;>try cases h
 next v rest hc=>
 have hc:c[of]? =some v:=by rw[←Array.getElem?_toList];exact drop_get hc
 rw[sq_eq]at h
 cases h
 have hagg:arun P (isAgg t) s=some (.ok false,s):=by
  unfold isS at hn
  split at hn<;>try cases hn
  rename_i hn
  unfold aggN at hn
  split at hn<;>try cases hn
  next d i h1 h2 hu hi=>
  unfold isAgg
  rw[arun_bnd _ _ (arun_und hu s)]
  split
  ·exact absurd rfl (h1 _)
  ·exact absurd rfl (h2 _ _)
  ·rfl
 have hl:arun P (Instr.loadAt t (aev e x)) s=some (.ok v,{s with rd:=s.rd|||bit b}):=by
  unfold Instr.loadAt
  rw[hv,arun_bnd (Instr.sureAddr (.pointer (some ⟨b,of,none⟩))) _ (s':=s) (a:=⟨b,of,none⟩) rfl]
  unfold loadVar
  rw[arun_bnd _ _ hagg]
  simp only[Bool.false_eq_true,if_false]
  show arun P (.load _ ⟨b,of,none⟩ fun v=>.pure v) s=_
  simp only[arun,hg,hc,sq_eq]
 exact⟨_,rfl,hl⟩
theorem load_addr {t:TypeId} {u:Value} {v:Value} (h:arun P (Instr.loadAt t u) s=some (.ok v,s')):arun P (do loadVar t (←asAddr u)) s=some (.ok v,s'):=by
 unfold Instr.loadAt at h
 cases u<;>try (cases h;done)
 rename_i a
 cases a with
 |none=>cases h
 |some a=>exact h
theorem ares1_run {x:ResultVar} {v:Value} (h:ares1 P n0 e x s=some (v,s')):arun P (match x with|.tmp t=>(pure ((e.get t).getD undef):Sem Value)|.cell a t=>do loadVar t (←asAddr ((e.get a).getD undef))) s=some (.ok v,s'):=by
 unfold ares1 at h
 cases x with
 |tmp t=>cases h;rfl
 |cell a t=>
  dsimp only at h⊢
  split at h
  ·next v2 s2 h1=>
   cases h
   obtain⟨v3,e3,h3⟩:=eL1_run h1
   cases e3
   exact load_addr h3
  ·split at h<;>cases h
   next h1=>
   obtain⟨v3,e3,h3⟩:=eLd_run h1
   cases e3
   exact load_addr h3
theorem aresL_run:∀(l:List ResultVar) (vs:List Value) (s s':AS),aresL P n0 e l s=some (vs,s')→arun P (l.mapM fun|.tmp t=>(pure ((e.get t).getD undef):Sem Value)|.cell a t=>do loadVar t (←asAddr ((e.get a).getD undef))) s=some (.ok vs,s')
 |[],vs,s,s',h=>by cases h;rw[List.mapM_nil];rfl
 |x::l,vs,s,s',h=>by
  unfold aresL at h
  split at h<;>try cases h
  next v s1 h1=>
  split at h<;>cases h
  next vs s2 h2=>
  rw[List.mapM_cons,arun_bnd _ _ (ares1_run h1),arun_bnd _ _ (aresL_run l _ _ _ h2)]
  rfl
theorem ares_eq {fn:Func} {r:CO} (h:ares P n0 e fn s=some (r,s')):ares0 P e fn s=some (r,s'):=by
 have key:∀{vs:List Value},aresL P n0 e fn.results.toList s=some (vs,s')→arun P (resF (fun t=>(e.get t).getD undef) fn) s=some (.ok (if h:vs.length=1 then vs[0] else .tuple ⟨vs⟩),s'):=fun {vs} h=>by
  unfold resF
  rw[Array.mapM_eq_mapM_toList]
  have h1:=aresL_run _ _ _ _ h
  have h2:arun P (List.toArray<$>fn.results.toList.mapM fun|.tmp t=>(pure ((e.get t).getD undef):Sem Value)|.cell a t=>do loadVar t (←asAddr ((e.get a).getD undef))) s=some (.ok ⟨vs⟩,s'):=by
   show arun P (fn.results.toList.mapM _>>=fun x=>pure x.toArray) s=_
   rw[arun_bnd _ _ h1]
   rfl
  exact (arun_bnd _ _ h2).trans rfl
 unfold ares at h
 split at h
 ·next v s1 h1=>
  cases h
  unfold ares0
  rw[key h1]
  rfl
 ·next vs s1 hne h1=>
  cases h
  unfold ares0
  rw[key h1]
  have:¬vs.length=1:=fun hl=>by
   obtain⟨v,rfl⟩:=List.length_eq_one_iff.1 hl
   exact hne v rfl
  rw[dif_neg this]
 ·exact h
end
end
end Go.Proofs.YtmnoaeffocnnmaaGreatDoor
