import Derived.WalkKit
import Derived.ProofKit
import Derived.Below
import Derived.Shelf.Small.Bits
import Derived.Shelf.Utf8.RuneCount
import Derived.Shelf.Strconv.Atoi
import Derived.Shelf.Strconv.Itoa0
import Derived.Shelf.Strconv.Itoa1
import Derived.Shelf.LaysM
import Derived.Shelf.Strconv.Itoa2
import Derived.Shelf.Strconv.Itoa3
import Derived.Shelf.Strings.Search1
import Derived.Shelf.Strings.Search2
import Derived.Shelf.Strings.Search3
import Derived.Shelf.Strings.Cut
import Derived.Shelf.Strings.Count
import Derived.Shelf.Strings.Shaped
import Derived.Shelf.Sort.Plain
import Derived.Shelf.Strings.Prefix
import Derived.Shelf.Strings.Split
import Derived.Shelf.Unicode.Decode
import Derived.Shelf.Strings.RuneCount
import Derived.Shelf.Unicode.DecodeSlow
import Derived.Shelf.Unicode.DecodeAny
import Derived.Shelf.Slices.Turned
import Derived.Ground.Names2Prog
import Derived.Shelf.Slices.Clone
import Derived.Shelf.Slices.CompactS
import Derived.Shelf.Slices.Cells
import Derived.Shelf.Slices.In.SortNone
import Derived.Ground.SlgnProg
import Derived.Shelf.SlicesE.Clone
import Derived.Test.YtjgbkdbkachciaaGreatDoorProg
set_option linter.all false
namespace Go.Proofs.YtjgbkdbkachciaaGreatDoor
set_option maxRecDepth 100000
set_option maxHeartbeats 16000000
section
open Go.RowKit
theorem af {α : Type _} {a : α} {l : List α} : (a :: l)[0]? = some a := List.getElem?_cons_zero
theorem ag {α : Type _} {a : α} {l : List α} {i : Nat} : (a :: l)[i + 1]? = l[i]? := List.getElem?_cons_succ
theorem ah {α : Type _} {l : List α} {i : Nat} (h : i < l.length) : l[i]? = some l[i] := List.getElem?_eq_getElem h
theorem ai {α : Type _} {a b : α} (h : a ∈ [b]) : a = b := List.mem_singleton.1 h
theorem aj {α : Type _} {l : List α} {i : Nat} {a : α} (h : l[i]? = some a) : ∃ h : i < l.length, l[i] = a := List.getElem?_eq_some_iff.1 h
theorem ak {α : Type _} {l : List α} {i : Nat} (h : i < l.length) : l[i] ∈ l := List.getElem_mem h
theorem aq {α : Type _} {a : α} {l : List α} : (a :: l).length = l.length + 1 := List.length_cons
theorem au {α : Type _} : ([] : List α).length = 0 := List.length_nil
theorem ax {α : Type _} {a b : List α} : (a ++ b).length = a.length + b.length := List.length_append
theorem ay (n : Nat) : n <= n := Nat.le_refl n
theorem az {a b c : Nat} (h : a <= b) (k : b <= c) : a <= c := Nat.le_trans h k
theorem aA (n : Nat) : n + 0 = n := Nat.add_zero n
theorem aB {a b c : Nat} (h : a < b) (k : b <= c) : a < c := Nat.lt_of_lt_of_le h k
theorem aC {α β : Type _} {l : List α} (f : α -> β) : (l.map f).length = l.length := List.length_map f
theorem aD {α : Type _} {l : Array α} {i : Nat} {a : α} (h : l[i]? = some a) : ∃ h : i < l.size, l[i] = a := Array.getElem?_eq_some_iff.1 h
theorem aF {p:Prop} (h:p):Hid p:=h
theorem aG{p:Prop} (h:p:=by omega):p:=h
theorem aL{p:Prop} (h:p:=by kernel_rfl):p:=h
theorem aH{p:Prop} (h:p:=by simp):p:=h
theorem aQ{p:Prop} (h:p:=by decide):p:=h
theorem fV{p:Prop} (h:p:=by rfl):p:=h
theorem Gm{p:Prop} (h:p:=by as_aux_lemma=>kernel_rfl):p:=h
theorem ct{p:Prop} (h:p:=by simp;omega):p:=h
theorem sv0{p:Prop} (h:p:=by simp [Value.oneCell']):p:=h
theorem ni{p:Prop} (h:p:=by simp [Oper.looksAt,Op.operands,Call.operands]):p:=h
theorem sy{p:Prop} (h:p:=by simp [Oper.looksAt,Op.operands]):p:=h
theorem jN{p:Prop} (h:p:=by intro c h;cases h):p:=h
theorem CN{p:Prop} (h:p:=by decide+kernel):p:=h
theorem tv0{p:Prop} (h:p:=by trivial):p:=h
theorem aJ{p:Prop} (h:p:=by intro r e;cases e):p:=h
theorem bh{p:Prop} (h:p:=by intro r e;cases e;omega):p:=h
theorem lG{p:Prop} (h:p:=by intro r e hb;cases e;omega):p:=h
theorem nX{p:Prop} (h:p:=by intro e;cases e;omega):p:=h
theorem s8{p:Prop} (h:p:=by intro e;cases e):p:=h
theorem u_{p:Prop} (h:p:=by intro r e;cases e;exact ay _):p:=h
theorem oi1{p:Prop} (h:p:=by intro e;have:=Option.some.inj e;omega):p:=h
theorem PA{p:Prop} (h:p:=by intro k e;have:=Option.some.inj e;omega):p:=h
theorem i20{p:Prop} (h:p:=by intro _ _ h;exact h):p:=h
theorem t20{p:Prop} (h:p:=by intro _ _;trivial):p:=h
theorem iZ{p q:Prop} (h:q) (k:q->p:=by intro _;omega):p:=k h
theorem cw{p q:Prop} (h:Hid q) (k:q->p:=by intro _;omega):p:=k h.out
theorem bD{α:Type} [BEq α] [LawfulBEq α] {a b:α} (h:a≠b:=by omega):(a==b)=false:=beq_eq_false_iff_ne.2 h
theorem bu{α:Type} [BEq α] [LawfulBEq α] {a b:α} (h:a≠b):(a==b)=false:=beq_eq_false_iff_ne.2 h
instance iA0:Coe World Nat:=⟨λw=>w.heap.size⟩
instance iB0(w:World) (n:Nat):CoeDep (World×Nat) (w,n) Nat:=⟨w.heap.size+n⟩
instance iC0(w:World) (i:Nat):CoeDep (World×Nat) (w,i) Addr:=⟨⟨w.heap.size,i,none⟩⟩
instance iD0(w:World) (n i:Nat):CoeDep (World×Nat×Nat) (w,n,i) Addr:=⟨⟨w.heap.size+n,i,none⟩⟩
instance iE0(b i:Nat):CoeDep (Nat×Nat) (b,i) Addr:=⟨⟨b,i,none⟩⟩
theorem fQ{n:Nat}:n<=n:=ay n
end
end Go.Proofs.YtjgbkdbkachciaaGreatDoor
namespace Go.Proofs
set_option maxRecDepth 100000
set_option maxHeartbeats 16000000
section
open Go.Shelf
def Tryz.lays128_ren:Go.Shelf.Ren:=⟨λ|128=>214|n=>n,λ|51=>227|3=>3|4=>4|46=>203|5=>5|9=>9|n=>n,λ|n=>n⟩
def Tryz.lays125_ren:Go.Shelf.Ren:=⟨λ|125=>183|128=>214|129=>215|n=>n,λ|46=>203|3=>3|51=>227|53=>229|4=>4|5=>5|9=>9|n=>n,λ|n=>n⟩
def Tryz.lays195_ren:Go.Shelf.Ren:=⟨λ|195=>191|n=>n,λ|9=>9|3=>3|0=>0|4=>4|n=>n,λ|n=>n⟩
def Tryz.lays244_ren:Go.Shelf.Ren:=⟨λ|244=>222|247=>239|287=>250|321=>259|322=>260|n=>n,λ|9=>9|3=>3|75=>213|4=>4|5=>5|167=>246|37=>128|0=>0|85=>247|2=>2|53=>229|175=>259|46=>203|21=>21|80=>122|n=>n,λ|n=>n⟩
def Tryz.lays172_ren:Go.Shelf.Ren:=⟨λ|172=>199|244=>222|245=>223|247=>239|279=>240|280=>241|281=>242|282=>243|287=>250|316=>251|171=>200|205=>252|321=>259|322=>260|243=>224|246=>244|283=>253|284=>254|285=>255|286=>256|129=>215|317=>261|318=>262|319=>263|320=>264|337=>268|338=>269|n=>n,λ|9=>9|3=>3|75=>213|76=>214|4=>4|5=>5|167=>246|37=>128|0=>0|85=>247|2=>2|168=>249|53=>229|175=>259|46=>203|210=>263|127=>270|145=>273|143=>271|21=>21|171=>265|173=>267|212=>274|51=>227|20=>20|213=>275|232=>279|233=>280|80=>122|n=>n,λ|15=>3|16=>4|17=>5|18=>6|19=>7|n=>n⟩
theorem Tryz.lays172:Go.Proofs.Lays.n172 Tryz.prog Tryz.lays172_ren:=by constructor<;>intros<;>kernel_rfl
open Go.RowKit in
theorem Tryz.strconv_Atoi (s:ByteArray) (n:Int) (hl:s.size<=18) (h:Lib.atoi s.data.toList=some n) (w:World):
  Calls Tryz.prog 199 #[.string s] w λe w'=>e= .returned (.tuple #[.int .i64 n, .nilIface])/\∃t,w'=Lib.bytesWorld w 5 t:=Any.strconv_Atoi Tryz.lays172 s n hl h w
def Tryz.lays129_ren:Go.Shelf.Ren:=⟨λ|129=>215|n=>n,λ|53=>229|3=>3|4=>4|46=>203|5=>5|9=>9|n=>n,λ|n=>n⟩
def Tryz.lays317_ren:Go.Shelf.Ren:=⟨λ|317=>261|n=>n,λ|3=>3|46=>203|n=>n,λ|n=>n⟩
def Tryz.lays318_ren:Go.Shelf.Ren:=⟨λ|318=>262|n=>n,λ|3=>3|4=>4|n=>n,λ|n=>n⟩
def Tryz.lays283_ren:Go.Shelf.Ren:=⟨λ|283=>253|n=>n,λ|3=>3|9=>9|4=>4|n=>n,λ|n=>n⟩
def Tryz.laysM284_ren:Go.Shelf.Ren:=⟨λ|284=>254|129=>215|317=>261|318=>262|n=>n,λ|53=>229|3=>3|212=>274|0=>0|4=>4|46=>203|5=>5|9=>9|n=>n,λ|17=>5|n=>n⟩
def Tryz.lays285_ren:Go.Shelf.Ren:=⟨λ|285=>255|n=>n,λ|37=>128|53=>229|3=>3|4=>4|51=>227|9=>9|5=>5|0=>0|n=>n,λ|n=>n⟩
def Tryz.laysM246_ren:Go.Shelf.Ren:=⟨λ|246=>244|283=>253|284=>254|285=>255|286=>256|129=>215|317=>261|318=>262|319=>263|320=>264|337=>268|338=>269|n=>n,λ|2=>2|3=>3|9=>9|4=>4|171=>265|0=>0|53=>229|37=>128|5=>5|173=>267|212=>274|51=>227|20=>20|213=>275|46=>203|232=>279|233=>280|n=>n,λ|17=>5|18=>6|19=>7|n=>n⟩
def Tryz.lays246_ren:Go.Shelf.Ren:=⟨λ|246=>244|283=>253|284=>254|285=>255|286=>256|129=>215|317=>261|318=>262|319=>263|320=>264|337=>268|338=>269|n=>n,λ|2=>2|3=>3|9=>9|4=>4|171=>265|0=>0|53=>229|37=>128|5=>5|173=>267|212=>274|51=>227|20=>20|213=>275|46=>203|232=>279|233=>280|n=>n,λ|17=>5|18=>6|19=>7|n=>n⟩
def Tryz.laysM243_ren:Go.Shelf.Ren:=⟨λ|243=>224|246=>244|283=>253|284=>254|285=>255|286=>256|129=>215|317=>261|318=>262|319=>263|320=>264|337=>268|338=>269|n=>n,λ|3=>3|9=>9|2=>2|4=>4|171=>265|0=>0|53=>229|37=>128|5=>5|173=>267|212=>274|51=>227|20=>20|213=>275|46=>203|232=>279|233=>280|n=>n,λ|17=>5|18=>6|19=>7|n=>n⟩
def Tryz.lays243_ren:Go.Shelf.Ren:=⟨λ|243=>224|246=>244|283=>253|284=>254|285=>255|286=>256|129=>215|317=>261|318=>262|319=>263|320=>264|337=>268|338=>269|n=>n,λ|3=>3|9=>9|2=>2|4=>4|171=>265|0=>0|53=>229|37=>128|5=>5|173=>267|212=>274|51=>227|20=>20|213=>275|46=>203|232=>279|233=>280|n=>n,λ|17=>5|18=>6|19=>7|n=>n⟩
def Tryz.laysM171_ren:Go.Shelf.Ren:=⟨λ|171=>200|243=>224|246=>244|283=>253|284=>254|285=>255|286=>256|129=>215|317=>261|318=>262|319=>263|320=>264|337=>268|338=>269|n=>n,λ|3=>3|9=>9|2=>2|4=>4|171=>265|0=>0|53=>229|37=>128|5=>5|173=>267|212=>274|51=>227|20=>20|213=>275|46=>203|232=>279|233=>280|n=>n,λ|17=>5|18=>6|19=>7|n=>n⟩
def Tryz.lays171_ren:Go.Shelf.Ren:=⟨λ|171=>200|243=>224|246=>244|283=>253|284=>254|285=>255|286=>256|129=>215|317=>261|318=>262|319=>263|320=>264|337=>268|338=>269|n=>n,λ|3=>3|9=>9|2=>2|4=>4|171=>265|0=>0|53=>229|37=>128|5=>5|173=>267|212=>274|51=>227|20=>20|213=>275|46=>203|232=>279|233=>280|n=>n,λ|17=>5|18=>6|19=>7|n=>n⟩
theorem Tryz.lays171:Go.Proofs.Lays.n171 Tryz.prog Tryz.lays171_ren:=by constructor<;>intros<;>kernel_rfl
open Go.RowKit Go.Sort Go.Lib in
theorem Tryz.strconv_Itoa_small (i:Nat) (hi:i<100) (w:World):
  Calls Tryz.prog 200 #[.int .i64 i] w λe w'=>e= .returned (.string ⟨(Lib.decDigits i).toArray⟩)/\w'=w:=Any.strconv_Itoa_small Tryz.lays171 i hi w
def Tryz.lays217_ren:Go.Shelf.Ren:=⟨λ|217=>235|266=>248|n=>n,λ|9=>9|5=>5|3=>3|n=>n,λ|n=>n⟩
def Tryz.lays224_ren:Go.Shelf.Ren:=⟨λ|224=>237|n=>n,λ|3=>3|n=>n,λ|n=>n⟩
def Tryz.lays314_ren:Go.Shelf.Ren:=⟨λ|314=>249|n=>n,λ|9=>9|51=>227|3=>3|4=>4|5=>5|46=>203|n=>n,λ|n=>n⟩
def Tryz.lays267_ren:Go.Shelf.Ren:=⟨λ|267=>238|314=>249|n=>n,λ|9=>9|3=>3|146=>257|51=>227|4=>4|5=>5|46=>203|n=>n,λ|n=>n⟩
def Tryz.lays219_ren:Go.Shelf.Ren:=⟨λ|219=>219|217=>235|225=>236|224=>237|267=>238|266=>248|314=>249|n=>n,λ|9=>9|3=>3|4=>4|5=>5|46=>203|146=>257|51=>227|n=>n,λ|1=>0|n=>n⟩
def Tryz.lays143_ren:Go.Shelf.Ren:=⟨λ|143=>193|219=>219|217=>235|225=>236|224=>237|267=>238|266=>248|314=>249|n=>n,λ|9=>9|3=>3|4=>4|5=>5|46=>203|146=>257|51=>227|n=>n,λ|1=>0|n=>n⟩
def Tryz.lays144_ren:Go.Shelf.Ren:=⟨λ|144=>197|143=>193|219=>219|217=>235|225=>236|224=>237|267=>238|266=>248|314=>249|n=>n,λ|9=>9|4=>4|3=>3|5=>5|46=>203|146=>257|51=>227|n=>n,λ|1=>0|n=>n⟩
def Tryz.lays220_ren:Go.Shelf.Ren:=⟨λ|220=>220|219=>219|217=>235|225=>236|224=>237|267=>238|266=>248|314=>249|n=>n,λ|9=>9|4=>4|3=>3|5=>5|46=>203|146=>257|51=>227|n=>n,λ|1=>0|n=>n⟩
def Tryz.lays145_ren:Go.Shelf.Ren:=⟨λ|145=>195|220=>220|219=>219|217=>235|225=>236|224=>237|267=>238|266=>248|314=>249|n=>n,λ|9=>9|4=>4|59=>210|3=>3|5=>5|46=>203|146=>257|51=>227|n=>n,λ|1=>0|n=>n⟩
def Tryz.lays138_ren:Go.Shelf.Ren:=⟨λ|138=>167|195=>191|218=>192|143=>193|219=>219|217=>235|225=>236|224=>237|267=>238|266=>248|314=>249|n=>n,λ|9=>9|3=>3|4=>4|5=>5|0=>0|46=>203|146=>257|51=>227|n=>n,λ|1=>0|n=>n⟩
theorem Tryz.lays138:Go.Proofs.Lays.n138 Tryz.prog Tryz.lays138_ren:=by constructor<;>intros<;>kernel_rfl
open Go.RowKit Go.Lib in
theorem Tryz.strings_Count_one (s:ByteArray) (c:UInt8) (w:World):
  Calls Tryz.prog 167 #[.string s, .string ⟨#[c]⟩] w λe w'=>e= .returned (.int .i64 (Lib.countByte s.data.toList c))/\w'=w:=Any.strings_Count_one Tryz.lays138 s c w
def Tryz.laysM219_ren:Go.Shelf.Ren:=⟨λ|219=>219|217=>235|225=>236|224=>237|267=>238|266=>248|314=>249|n=>n,λ|9=>9|3=>3|4=>4|5=>5|46=>203|146=>257|51=>227|n=>n,λ|1=>0|n=>n⟩
def Tryz.laysM143_ren:Go.Shelf.Ren:=⟨λ|143=>193|219=>219|217=>235|225=>236|224=>237|267=>238|266=>248|314=>249|n=>n,λ|9=>9|3=>3|4=>4|5=>5|46=>203|146=>257|51=>227|n=>n,λ|1=>0|n=>n⟩
def Tryz.laysM144_ren:Go.Shelf.Ren:=⟨λ|144=>197|143=>193|219=>219|217=>235|225=>236|224=>237|267=>238|266=>248|314=>249|n=>n,λ|9=>9|4=>4|3=>3|5=>5|46=>203|146=>257|51=>227|n=>n,λ|1=>0|n=>n⟩
def Tryz.laysM220_ren:Go.Shelf.Ren:=⟨λ|220=>220|219=>219|217=>235|225=>236|224=>237|267=>238|266=>248|314=>249|n=>n,λ|9=>9|4=>4|3=>3|5=>5|46=>203|146=>257|51=>227|n=>n,λ|1=>0|n=>n⟩
def Tryz.laysM145_ren:Go.Shelf.Ren:=⟨λ|145=>195|220=>220|219=>219|217=>235|225=>236|224=>237|267=>238|266=>248|314=>249|n=>n,λ|9=>9|4=>4|59=>210|3=>3|5=>5|46=>203|146=>257|51=>227|n=>n,λ|1=>0|n=>n⟩
def Tryz.laysM138_ren:Go.Shelf.Ren:=⟨λ|138=>167|195=>191|218=>192|143=>193|219=>219|217=>235|225=>236|224=>237|267=>238|266=>248|314=>249|n=>n,λ|9=>9|3=>3|4=>4|5=>5|0=>0|46=>203|146=>257|51=>227|n=>n,λ|1=>0|n=>n⟩
def Tryz.lays190_ren:Go.Shelf.Ren:=⟨λ|190=>122|125=>183|258=>182|128=>214|129=>215|302=>205|303=>206|304=>207|305=>208|306=>209|307=>210|308=>211|309=>212|310=>213|333=>228|329=>229|330=>230|334=>231|335=>232|336=>233|344=>247|n=>n,λ|31=>49|9=>9|3=>3|46=>203|0=>0|51=>227|53=>229|4=>4|183=>221|182=>220|131=>39|5=>5|218=>240|222=>206|228=>254|229=>255|n=>n,λ|n=>n⟩
theorem Tryz.lays190:Go.Proofs.Lays.n190 Tryz.prog Tryz.lays190_ren:=by constructor<;>intros<;>kernel_rfl
open Go.Sort Go.RowKit in
theorem Tryz.slices_Sort_string (blk off cap:Nat) (ss:List (List UInt8)) (w:World) (hH:Holds encStr w blk off ss.toArray) (hblk:blk<w.heap.size) (hsz:ss.length<4611686018427387904):
  Calls Tryz.prog 122 #[.slice (some ⟨blk,off,none⟩) ss.length cap] w λe w'=>
   e= .returned (.tuple #[])/\∃n os,w'=grow (putRow encStr (Sort.ahead w n) blk off (ss.mergeSort λx y=>decide (x<=y)).toArray) os:=Any.slices_Sort_string Tryz.lays190 blk off cap ss w hH hblk hsz
def Tryz.lays206_ren:Go.Shelf.Ren:=⟨λ|206=>194|n=>n,λ|9=>9|4=>4|3=>3|n=>n,λ|n=>n⟩
def Tryz.lays99_ren:Go.Shelf.Ren:=⟨λ|99=>168|206=>194|n=>n,λ|9=>9|4=>4|3=>3|n=>n,λ|n=>n⟩
theorem Tryz.lays99:Go.Proofs.Lays.n99 Tryz.prog Tryz.lays99_ren:=by constructor<;>intros<;>kernel_rfl
open Go.RowKit Go.Lib in
theorem Tryz.strings_HasPrefix (s p:ByteArray) (w:World):
  Calls Tryz.prog 168 #[.string s, .string p] w λe w'=>e= .returned (.bool (Lib.hasPrefix s.data.toList p.data.toList))/\w'=w:=Any.strings_HasPrefix Tryz.lays99 s p w
def Tryz.lays197_ren:Go.Shelf.Ren:=⟨λ|197=>201|260=>225|n=>n,λ|9=>9|21=>21|3=>3|4=>4|5=>5|105=>216|119=>234|0=>0|46=>203|139=>237|138=>236|n=>n,λ|3=>1|4=>2|n=>n⟩
def Tryz.lays260_ren:Go.Shelf.Ren:=⟨λ|260=>225|n=>n,λ|9=>9|21=>21|3=>3|4=>4|5=>5|119=>234|0=>0|46=>203|139=>237|138=>236|n=>n,λ|3=>1|4=>2|n=>n⟩
def Tryz.lays108_ren:Go.Shelf.Ren:=⟨λ|108=>104|n=>n,λ|28=>22|3=>3|0=>0|4=>4|n=>n,λ|n=>n⟩
def Tryz.lays107_ren:Go.Shelf.Ren:=⟨λ|107=>61|108=>104|n=>n,λ|28=>22|3=>3|4=>4|0=>0|n=>n,λ|n=>n⟩
def Tryz.lays109_ren:Go.Shelf.Ren:=⟨λ|109=>126|n=>n,λ|31=>49|9=>9|3=>3|0=>0|4=>4|n=>n,λ|n=>n⟩
def Tryz.lays110_ren:Go.Shelf.Ren:=⟨λ|110=>89|109=>126|n=>n,λ|31=>49|9=>9|4=>4|3=>3|0=>0|n=>n,λ|n=>n⟩
def Tryz.laysNm216_ren:Go.Shelf.Ren:=⟨λ|16=>85|n=>n,λ|24=>49|9=>9|4=>4|n=>n,λ|n=>n⟩
theorem Tryz.laysNm216:Go.Proofs.Lays2.n16 Tryz.prog Tryz.laysNm216_ren:=by constructor<;>intros<;>kernel_rfl
open Go.RowKit Go.Lib in
theorem Tryz.slices_Clone_string (b off n c:Nat) (zs:List ByteArray) (w:World) (hz:n<=zs.length) (hbig:n*16<=140737488355328) (hc:∀j,j<zs.length->w.cell? ⟨b,off+j,none⟩=some (.string (zs.getD j ByteArray.empty))):
  Calls Tryz.prog 85 #[.slice (some ⟨b,off,none⟩) n c] w λe w'=>∃v',e= .returned v'/\w'.ownsRow w.heap.size 9 1 v' n ((zs.take n).map (Value.string))/\v'≠ .slice none 0 0/\Below w.heap.size w w':=Any.slices_Clone_string Tryz.laysNm216 b off n c zs w hz hbig hc
open Go.RowKit Go.Lib in
theorem Tryz.slices_Clone_string_nil (n c:Nat) (w:World):
  Calls Tryz.prog 85 #[.slice none n c] w λe w'=>e= .returned (.slice none 0 0)/\w'=w:=Any.slices_Clone_string_nil Tryz.laysNm216 n c w
def Tryz.lays194_ren:Go.Shelf.Ren:=⟨λ|194=>84|n=>n,λ|31=>49|9=>9|3=>3|4=>4|0=>0|n=>n,λ|n=>n⟩
theorem Tryz.lays194:Go.Proofs.Lays.n194 Tryz.prog Tryz.lays194_ren:=by constructor<;>intros<;>kernel_rfl
open Go.RowKit Go.Lib Go.Sort in
theorem Tryz.slices_Compact_string (blk off cap:Nat) (zs:List (List UInt8)) (w:World) (hH:Holds encStr w blk off zs.toArray) (hsz:zs.length<=9223372036854775807) (hcap:zs.length<=cap):
  Calls Tryz.prog 84 #[.slice (some ⟨blk,off,none⟩) zs.length cap] w λe w'=>e= .returned (.slice (some ⟨blk,off,none⟩) (Lib.compact zs).length cap)/\∃q,w'=putRow encStr (Sort.ahead w q) blk off (Lib.compact zs++List.replicate (zs.length - (Lib.compact zs).length) []).toArray:=Any.slices_Compact_string Tryz.lays194 blk off cap zs w hH hsz hcap
open Go.RowKit Go.Lib Go.Sort in
theorem Tryz.slices_Compact_string_empty (a:Option Addr) (cap:Nat) (w:World):
  Calls Tryz.prog 84 #[.slice a 0 cap] w λe w'=>e= .returned (.slice a 0 cap)/\w'=w:=Any.slices_Compact_string_empty Tryz.lays194 a cap w
open Go.RowKit Go.Sort in
theorem Tryz.slices_Sort_string_none (p:Option Addr) (cap:Nat) (w:World):
  Calls Tryz.prog 122 #[.slice p 0 cap] w λe w'=>e= .returned (.tuple #[])/\w'=w:=Any.slices_Sort_string_none Tryz.lays190 p cap w
def Tryz.laysSlE041_f85_ren:Go.Shelf.Ren:=⟨λ|41=>85|n=>n,λ|22=>49|23=>9|4=>4|n=>n,λ|n=>n⟩
end
end Go.Proofs
