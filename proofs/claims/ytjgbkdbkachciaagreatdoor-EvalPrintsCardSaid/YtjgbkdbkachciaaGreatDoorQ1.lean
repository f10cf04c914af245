import Derived.Test.YtjgbkdbkachciaaGreatDoorQ0
/-
  What the scanner and the parser make of a text, as plain functions.
-/
namespace Go.Proofs.YtjgbkdbkachciaaGreatDoor

abbrev Str := List UInt8
structure Tok where
  kind : Int
  text : Str
  n : Int
  line : Int
deriving DecidableEq
inductive LE where
  | mk (kind op n : Int) (name : Str) (args : List LE)
def LE.kind : LE → Int | .mk k _ _ _ _ => k
def LE.op : LE → Int | .mk _ o _ _ _ => o
def LE.n : LE → Int | .mk _ _ n _ _ => n
def LE.name : LE → Str | .mk _ _ _ s _ => s
def LE.args : LE → List LE | .mk _ _ _ _ l => l
inductive LS where
  | mk (kind : Int) (name : Str) (args : List LE) (thn els : List LS)
def LS.kind : LS → Int | .mk k _ _ _ _ => k
def LS.name : LS → Str | .mk _ s _ _ _ => s
def LS.args : LS → List LE | .mk _ _ l _ _ => l
def LS.thn : LS → List LS | .mk _ _ _ l _ => l
def LS.els : LS → List LS | .mk _ _ _ _ l => l
structure LF where
  name : Str
  params : List Str
  locals : List Str
  body : List LS
structure LA where
  name : Str
  size : Int
structure LP where
  arrays : List LA
  funcs : List LF

/-! ### arith -/
/-- an operator's sign, and how strongly it binds -/
def signS (op : Int) : Str :=
  if op = 1 then [43] else if op = 2 then [45] else if op = 3 then [42] else if op = 4 then [47] else if op = 5 then [37] else if op = 6 then [38]
  else if op = 7 then [124] else if op = 8 then [94] else if op = 9 then [60, 60] else if op = 10 then [62, 62] else if op = 11 then [60] else if op = 12 then [60, 61]
  else if op = 13 then [62] else if op = 14 then [62, 61] else if op = 15 then [61, 61] else if op = 16 then [33, 61] else if op = 17 then [45] else if op = 18 then [33]
  else if op = 19 then [126] else []
def levelI (op : Int) : Int :=
  if op = 1 ∨ op = 2 then 7 else if op = 3 ∨ op = 4 ∨ op = 5 then 8 else if op = 6 then 3 else if op = 7 then 1 else if op = 8 then 2
  else if op = 9 ∨ op = 10 then 6 else if 11 ≤ op ∧ op ≤ 14 then 5 else if op = 15 ∨ op = 16 then 4 else 0

/-! ### scan -/
def isLetter (b : UInt8) : Bool := b == 95 || (decide (97 ≤ b.toNat) && decide (b.toNat ≤ 122)) || (decide (65 ≤ b.toNat) && decide (b.toNat ≤ 90))
def isDigit (b : UInt8) : Bool := decide (48 ≤ b.toNat) && decide (b.toNat ≤ 57)
def isBlank (b : UInt8) : Bool := b == 32 || b == 9 || b == 10 || b == 13
def wordsL : List Str := [[105, 110, 116], [105, 102], [101, 108, 115, 101], [119, 104, 105, 108, 101], [98, 114, 101, 97, 107], [99, 111, 110, 116, 105, 110, 117, 101], [114, 101, 116, 117, 114, 110], [112, 114, 105, 110, 116], [114, 101, 97, 100], [116, 114, 97, 112]]
def isWord (s : Str) : Bool := wordsL.contains s
def signsL : List Str := [[61, 61], [33, 61], [60, 61], [62, 61], [60, 60], [62, 62], [40], [41], [123], [125], [91], [93], [44], [59], [61], [124], [94], [38], [43], [45], [42], [47], [37], [33], [126], [60], [62]]
/-- a text of ASCII that may be a name -/
def isName (s : Str) : Bool := !s.isEmpty && decide (s.length ≤ 20) && !isWord s && (s.head?.map isLetter).getD false && s.all fun b => isLetter b || isDigit b

/-! ### parse -/
def tokIs (t : Tok) (x : Str) : Bool := (decide (t.kind = 2) || decide (t.kind = 4)) && decide (t.text = x)
/-- the first operator of two that is next and binds so strongly -/
def binAt (lv : Int) (t : Tok) : Nat → Int → Int
  | 0, _ => 0
  | k + 1, op => if tokIs t (signS op) && decide (lv ≤ levelI op) then op else binAt lv t k (op + 1)
def unAt (t : Tok) : Nat → Int → Int
  | 0, _ => 0
  | k + 1, op => if tokIs t (signS op) then op else unAt t k (op + 1)

mutual
def tightF : Nat → List Tok → Option (LE × List Tok)
  | 0, _ => none
  | k + 1, ts => match ts with
    | [] => none
    | t :: r =>
      if unAt t 3 17 ≠ 0 then (tightF k r).map fun p => (.mk 3 (unAt t 3 17) 0 [] [p.1], p.2)
      else if tokIs t [40] then match climbF k 1 r with
        | some (e, u :: r') => if tokIs u [41] then some (e, r') else none
        | _ => none
      else if tokIs t [114, 101, 97, 100] then match r with
        | a :: b :: r' => if tokIs a [40] && tokIs b [41] then some (.mk 7 0 0 [] [], r') else none
        | _ => none
      else if t.kind = 3 then some (.mk 1 0 t.n [] [], r)
      else if t.kind = 1 then namedF k t.text r
      else none
def namedF : Nat → Str → List Tok → Option (LE × List Tok)
  | 0, _, _ => none
  | k + 1, nm, ts => match ts with
    | [] => none
    | t :: r =>
      if tokIs t [40] then (argsF k r).map fun p => (.mk 5 0 0 nm p.1, p.2)
      else if tokIs t [91] then match climbF k 1 r with
        | some (e, u :: r') => if tokIs u [93] then some (.mk 6 0 0 nm [e], r') else none
        | _ => none
      else some (.mk 2 0 0 nm [], ts)
def climbF : Nat → Int → List Tok → Option (LE × List Tok)
  | 0, _, _ => none
  | k + 1, lv, ts => match tightF k ts with
    | some (e, r) => loopF k lv e r
    | none => none
def loopF : Nat → Int → LE → List Tok → Option (LE × List Tok)
  | 0, _, _, _ => none
  | k + 1, lv, e, ts => match ts with
    | [] => none
    | t :: r =>
      if binAt lv t 16 1 = 0 then some (e, ts)
      else match climbF k (levelI (binAt lv t 16 1) + 1) r with
        | some (f, r') => loopF k lv (.mk 4 (binAt lv t 16 1) 0 [] [e, f]) r'
        | none => none
def argsF : Nat → List Tok → Option (List LE × List Tok)
  | 0, _ => none
  | k + 1, ts => match ts with
    | [] => none
    | t :: r => if tokIs t [41] then some ([], r) else match climbF k 1 ts with
      | some (e, r') => moreF k [e] r'
      | none => none
def moreF : Nat → List LE → List Tok → Option (List LE × List Tok)
  | 0, _, _ => none
  | k + 1, l, ts => match ts with
    | [] => none
    | t :: r =>
      if tokIs t [44] then match climbF k 1 r with
        | some (e, r') => moreF k (l ++ [e]) r'
        | none => none
      else if tokIs t [41] then some (l, r) else none
end
end Go.Proofs.YtjgbkdbkachciaaGreatDoor
