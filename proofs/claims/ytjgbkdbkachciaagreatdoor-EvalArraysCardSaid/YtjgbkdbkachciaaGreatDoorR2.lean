import Derived.Test.YtjgbkdbkachciaaGreatDoorQ0
import Derived.Laws.EntriesVeiled
import Derived.Laws.RangeString
import Derived.Laws.RangeAny
/-
  What the scanner and the parser make of a text, as plain functions.
-/
namespace Go.Proofs.YtjgbkdbkachciaaGreatDoor

abbrev Str := List UInt8
structure Tok where
  kind : Int
  text : Str
  n : Int
  line : Int
deriving DecidableEq
inductive LE where
  | mk (kind op n : Int) (name : Str) (args : List LE)
def LE.kind : LE → Int | .mk k _ _ _ _ => k
def LE.op : LE → Int | .mk _ o _ _ _ => o
def LE.n : LE → Int | .mk _ _ n _ _ => n
def LE.name : LE → Str | .mk _ _ _ s _ => s
def LE.args : LE → List LE | .mk _ _ _ _ l => l
inductive LS where
  | mk (kind : Int) (name : Str) (args : List LE) (thn els : List LS)
def LS.kind : LS → Int | .mk k _ _ _ _ => k
def LS.name : LS → Str | .mk _ s _ _ _ => s
def LS.args : LS → List LE | .mk _ _ l _ _ => l
def LS.thn : LS → List LS | .mk _ _ _ l _ => l
def LS.els : LS → List LS | .mk _ _ _ _ l => l
structure LF where
  name : Str
  params : List Str
  locals : List Str
  body : List LS
structure LA where
  name : Str
  size : Int
structure LP where
  arrays : List LA
  funcs : List LF

/-! ### arith -/
/-- an operator's sign, and how strongly it binds -/
def signS (op : Int) : Str :=
  if op = 1 then [43] else if op = 2 then [45] else if op = 3 then [42] else if op = 4 then [47] else if op = 5 then [37] else if op = 6 then [38]
  else if op = 7 then [124] else if op = 8 then [94] else if op = 9 then [60, 60] else if op = 10 then [62, 62] else if op = 11 then [60] else if op = 12 then [60, 61]
  else if op = 13 then [62] else if op = 14 then [62, 61] else if op = 15 then [61, 61] else if op = 16 then [33, 61] else if op = 17 then [45] else if op = 18 then [33]
  else if op = 19 then [126] else []
def levelI (op : Int) : Int :=
  if op = 1 ∨ op = 2 then 7 else if op = 3 ∨ op = 4 ∨ op = 5 then 8 else if op = 6 then 3 else if op = 7 then 1 else if op = 8 then 2
  else if op = 9 ∨ op = 10 then 6 else if 11 ≤ op ∧ op ≤ 14 then 5 else if op = 15 ∨ op = 16 then 4 else 0

/-! ### scan -/
def isLetter (b : UInt8) : Bool := b == 95 || (decide (97 ≤ b.toNat) && decide (b.toNat ≤ 122)) || (decide (65 ≤ b.toNat) && decide (b.toNat ≤ 90))
def isDigit (b : UInt8) : Bool := decide (48 ≤ b.toNat) && decide (b.toNat ≤ 57)
def isBlank (b : UInt8) : Bool := b == 32 || b == 9 || b == 10 || b == 13
def wordsL : List Str := [[105, 110, 116], [105, 102], [101, 108, 115, 101], [119, 104, 105, 108, 101], [98, 114, 101, 97, 107], [99, 111, 110, 116, 105, 110, 117, 101], [114, 101, 116, 117, 114, 110], [112, 114, 105, 110, 116], [114, 101, 97, 100], [116, 114, 97, 112]]
def isWord (s : Str) : Bool := wordsL.contains s
def signsL : List Str := [[61, 61], [33, 61], [60, 61], [62, 61], [60, 60], [62, 62], [40], [41], [123], [125], [91], [93], [44], [59], [61], [124], [94], [38], [43], [45], [42], [47], [37], [33], [126], [60], [62]]
/-- a text of ASCII that may be a name -/
def isName (s : Str) : Bool := !s.isEmpty && decide (s.length ≤ 20) && !isWord s && (s.head?.map isLetter).getD false && s.all fun b => isLetter b || isDigit b

/-! ### parse -/
def tokIs (t : Tok) (x : Str) : Bool := (decide (t.kind = 2) || decide (t.kind = 4)) && decide (t.text = x)
/-- the first operator of two that is next and binds so strongly -/
def binAt (lv : Int) (t : Tok) : Nat → Int → Int
  | 0, _ => 0
  | k + 1, op => if tokIs t (signS op) && decide (lv ≤ levelI op) then op else binAt lv t k (op + 1)
def unAt (t : Tok) : Nat → Int → Int
  | 0, _ => 0
  | k + 1, op => if tokIs t (signS op) then op else unAt t k (op + 1)

mutual
def tightF : Nat → List Tok → Option (LE × List Tok)
  | 0, _ => none
  | k + 1, ts => match ts with
    | [] => none
    | t :: r =>
      if unAt t 3 17 ≠ 0 then (tightF k r).map fun p => (.mk 3 (unAt t 3 17) 0 [] [p.1], p.2)
      else if tokIs t [40] then match climbF k 1 r with
        | some (e, u :: r') => if tokIs u [41] then some (e, r') else none
        | _ => none
      else if tokIs t [114, 101, 97, 100] then match r with
        | a :: b :: r' => if tokIs a [40] && tokIs b [41] then some (.mk 7 0 0 [] [], r') else none
        | _ => none
      else if t.kind = 3 then some (.mk 1 0 t.n [] [], r)
      else if t.kind = 1 then namedF k t.text r
      else none
def namedF : Nat → Str → List Tok → Option (LE × List Tok)
  | 0, _, _ => none
  | k + 1, nm, ts => match ts with
    | [] => none
    | t :: r =>
      if tokIs t [40] then (argsF k r).map fun p => (.mk 5 0 0 nm p.1, p.2)
      else if tokIs t [91] then match climbF k 1 r with
        | some (e, u :: r') => if tokIs u [93] then some (.mk 6 0 0 nm [e], r') else none
        | _ => none
      else some (.mk 2 0 0 nm [], ts)
def climbF : Nat → Int → List Tok → Option (LE × List Tok)
  | 0, _, _ => none
  | k + 1, lv, ts => match tightF k ts with
    | some (e, r) => loopF k lv e r
    | none => none
def loopF : Nat → Int → LE → List Tok → Option (LE × List Tok)
  | 0, _, _, _ => none
  | k + 1, lv, e, ts => match ts with
    | [] => none
    | t :: r =>
      if binAt lv t 16 1 = 0 then some (e, ts)
      else match climbF k (levelI (binAt lv t 16 1) + 1) r with
        | some (f, r') => loopF k lv (.mk 4 (binAt lv t 16 1) 0 [] [e, f]) r'
        | none => none
def argsF : Nat → List Tok → Option (List LE × List Tok)
  | 0, _ => none
  | k + 1, ts => match ts with
    | [] => none
    | t :: r => if tokIs t [41] then some ([], r) else match climbF k 1 ts with
      | some (e, r') => moreF k [e] r'
      | none => none
def moreF : Nat → List LE → List Tok → Option (List LE × List Tok)
  | 0, _, _ => none
  | k + 1, l, ts => match ts with
    | [] => none
    | t :: r =>
      if tokIs t [44] then match climbF k 1 r with
        | some (e, r') => moreF k (l ++ [e]) r'
        | none => none
      else if tokIs t [41] then some (l, r) else none
end
end Go.Proofs.YtjgbkdbkachciaaGreatDoor

namespace Go.Proofs.YtjgbkdbkachciaaGreatDoor
open Go.RowKit Go.Shelf
attribute [local go_sem] Oper.semAt_some

abbrev S (l : Str) : Value := .string ⟨l.toArray⟩
def twoN (op : Int) : Nat := if op = 1 then 145 else if op = 2 then 146 else if op = 3 then 147 else if op = 4 then 148 else if op = 5 then 149 else if op = 6 then 150 else if op = 7 then 151 else if op = 8 then 152
  else if op = 9 then 153 else if op = 10 then 154 else if op = 11 then 155 else if op = 12 then 157 else if op = 13 then 158 else if op = 14 then 159 else if op = 15 then 160 else if op = 16 then 161 else 0
def oneN (op : Int) : Nat := if op = 17 then 162 else if op = 18 then 163 else if op = 19 then 164 else 0
def fnV (n : Nat) : Value := if n = 0 then .nilFunc else .func (.func n) #[] #[]
def rowV (op : Int) : Value := .agg #[S (signS op), I (levelI op), fnV (twoN op), fnV (oneN op)]

set_option maxRecDepth 100000 in
set_option maxHeartbeats 4000000 in
theorem rowOf_any (op : Int) (w : World) : Calls Tryz.prog 105 #[I op] w fun e w' => e = .returned (rowV op) ∧ Below w.heap.size w w' := by
  have hcs : op = 1 ∨ op = 2 ∨ op = 3 ∨ op = 4 ∨ op = 5 ∨ op = 6 ∨ op = 7 ∨ op = 8 ∨ op = 9 ∨ op = 10 ∨ op = 11 ∨ op = 12 ∨ op = 13 ∨ op = 14 ∨ op = 15 ∨ op = 16 ∨ op = 17 ∨ op = 18 ∨ op = 19 ∨ (op < 1 ∨ 19 < op) := by omega
  rcases hcs with rfl | rfl | rfl | rfl | rfl | rfl | rfl | rfl | rfl | rfl | rfl | rfl | rfl | rfl | rfl | rfl | rfl | rfl | rfl | h
  case' inr.inr.inr.inr.inr.inr.inr.inr.inr.inr.inr.inr.inr.inr.inr.inr.inr.inr.inr =>
    have h1 : (op == 1) = false := beq_eq_false_iff_ne.2 (by omega)
    have h2 : (op == 2) = false := beq_eq_false_iff_ne.2 (by omega)
    have h3 : (op == 3) = false := beq_eq_false_iff_ne.2 (by omega)
    have h4 : (op == 4) = false := beq_eq_false_iff_ne.2 (by omega)
    have h5 : (op == 5) = false := beq_eq_false_iff_ne.2 (by omega)
    have h6 : (op == 6) = false := beq_eq_false_iff_ne.2 (by omega)
    have h7 : (op == 7) = false := beq_eq_false_iff_ne.2 (by omega)
    have h8 : (op == 8) = false := beq_eq_false_iff_ne.2 (by omega)
    have h9 : (op == 9) = false := beq_eq_false_iff_ne.2 (by omega)
    have h10 : (op == 10) = false := beq_eq_false_iff_ne.2 (by omega)
    have h11 : (op == 11) = false := beq_eq_false_iff_ne.2 (by omega)
    have h12 : (op == 12) = false := beq_eq_false_iff_ne.2 (by omega)
    have h13 : (op == 13) = false := beq_eq_false_iff_ne.2 (by omega)
    have h14 : (op == 14) = false := beq_eq_false_iff_ne.2 (by omega)
    have h15 : (op == 15) = false := beq_eq_false_iff_ne.2 (by omega)
    have h16 : (op == 16) = false := beq_eq_false_iff_ne.2 (by omega)
    have h17 : (op == 17) = false := beq_eq_false_iff_ne.2 (by omega)
    have h18 : (op == 18) = false := beq_eq_false_iff_ne.2 (by omega)
    have h19 : (op == 19) = false := beq_eq_false_iff_ne.2 (by omega)
    have hv : rowV op = .agg #[S [], I 0, .nilFunc, .nilFunc] := by
      unfold rowV signS levelI twoN oneN fnV
      simp only [beq_eq_false_iff_ne] at h1 h2 h3 h4 h5 h6 h7 h8 h9 h10 h11 h12 h13 h14 h15 h16 h17 h18 h19
      simp [h1, h2, h3, h4, h5, h6, h7, h8, h9, h10, h11, h12, h13, h14, h15, h16, h17, h18, h19]
      omega
    have HV := Lib.hid hv
    clear hv h
  all_goals
    go_enter Tryz.func105, Tryz.ntmps105
    go_wp2
    refine bodyPost_ret (results_cell_row rfl _ _ w.heap.size 160 _ (0, 0) _ rfl (heap_new _ _) Tryz.underlying160 rfl (by kernel_rfl)) rfl ?_
    exact ⟨by first | rfl | rw [HV.out], below_a1 _ _⟩
end Go.Proofs.YtjgbkdbkachciaaGreatDoor

namespace Go.Proofs.YtjgbkdbkachciaaGreatDoor
open Go.RowKit Go.Shelf
attribute [local go_sem] Oper.semAt_some

abbrev R32 (r : Int) : Value := .int .i32 r
def letterR (r : Int) : Bool := decide (r = 95) || (decide (97 ≤ r) && decide (r ≤ 122)) || (decide (65 ≤ r) && decide (r ≤ 90))
def digitR (r : Int) : Bool := decide (48 ≤ r) && decide (r ≤ 57)
def blankR (r : Int) : Bool := decide (r = 32) || decide (r = 9) || decide (r = 10) || decide (r = 13)
theorem isLetter_eq (b : UInt8) : isLetter b = letterR b.toNat := by
  have h : (b == 95) = decide ((b.toNat : Int) = 95) := by
    have : b = 95 ↔ (b.toNat : Int) = 95 := by
      rw [← UInt8.toNat_inj]; simp; omega
    by_cases hb : b = 95
    · rw [decide_eq_true (this.1 hb)]; simpa using hb
    · rw [decide_eq_false (fun e => hb (this.2 e))]; simpa using hb
  unfold isLetter letterR
  rw [h]
  congr 1
  · congr 1
    congr 1 <;> (apply decide_eq_decide.2; omega)
  · congr 1 <;> (apply decide_eq_decide.2; omega)
theorem isDigit_eq (b : UInt8) : isDigit b = digitR b.toNat := by
  unfold isDigit digitR
  congr 1 <;> (apply decide_eq_decide.2; omega)
theorem byte_eq (b : UInt8) (n : UInt8) : (b == n) = decide ((b.toNat : Int) = (n.toNat : Int)) := by
  have : b = n ↔ (b.toNat : Int) = (n.toNat : Int) := by
    rw [← UInt8.toNat_inj]; omega
  by_cases hb : b = n
  · rw [decide_eq_true (this.1 hb)]; simpa using hb
  · rw [decide_eq_false (fun e => hb (this.2 e))]; simpa using hb
theorem isBlank_eq (b : UInt8) : isBlank b = blankR b.toNat := by
  unfold isBlank blankR
  rw [byte_eq b 32, byte_eq b 9, byte_eq b 10, byte_eq b 13]
  rfl

/-- a function of one character -/
def RuneFn (k : Nat) (p : Int → Bool) : Prop := ∀ (r : Int) (w : World), 0 ≤ r → r < 128 → Calls Tryz.prog k #[R32 r] w fun e w' => e = .returned (.bool (p r)) ∧ w = w'

set_option maxRecDepth 100000 in
set_option maxHeartbeats 2000000 in
theorem letter_any : RuneFn 170 letterR := by
  intro r w h0 h1
  go_enter Tryz.func170, Tryz.ntmps170
  go_wp2
  all_goals
    go_ret
    refine ⟨congrArg (fun b => Ending.returned (Value.bool b)) ?_, rfl⟩
    rw [Bool.eq_iff_iff]
    simp [letterR]
    try omega
set_option maxRecDepth 100000 in
set_option maxHeartbeats 2000000 in
theorem digit_any : RuneFn 172 digitR := by
  intro r w h0 h1
  go_enter Tryz.func172, Tryz.ntmps172
  go_wp2
  all_goals
    go_ret
    refine ⟨congrArg (fun b => Ending.returned (Value.bool b)) ?_, rfl⟩
    rw [Bool.eq_iff_iff]
    simp [digitR]
    try omega
set_option maxRecDepth 100000 in
set_option maxHeartbeats 2000000 in
theorem blank_any : RuneFn 166 blankR := by
  intro r w h0 h1
  go_enter Tryz.func166, Tryz.ntmps166
  go_wp2
  all_goals
    go_ret
    refine ⟨congrArg (fun b => Ending.returned (Value.bool b)) ?_, rfl⟩
    rw [Bool.eq_iff_iff]
    simp [blankR]
    try omega

def wordR (r : Int) : Bool := letterR r || digitR r
set_option maxRecDepth 100000 in
set_option maxHeartbeats 2000000 in
theorem wordc_any : RuneFn 198 wordR := by
  intro r w h0 h1
  cases hl : letterR r
  all_goals
    have HL := Lib.hid hl
    clear hl
    go_enter Tryz.func198, Tryz.ntmps198
    go_wp2_with (first
      | (go_at_call 170; refine (letter_any r w h0 h1).mono ?_; rintro e w1 ⟨rfl, rfl⟩; rw [HL.out])
      | (go_at_call 172; refine (digit_any r w h0 h1).mono ?_; rintro e w1 ⟨rfl, rfl⟩))
    go_ret
    refine ⟨?_, rfl⟩
    unfold wordR
    rw [HL.out]
    rfl

/-- how many characters at the beginning are such -/
def runL (p : Int → Bool) (l : Str) : Nat := (l.takeWhile fun b => p b.toNat).length
theorem runL_stop {p : Int → Bool} : ∀ {l : Str} {k : Nat} {b : UInt8}, (∀ (j : Nat) (c : UInt8), j < k → l[j]? = some c → p c.toNat = true) → l[k]? = some b → p b.toNat = false → runL p l = k
  | [], k, b, _, hk, _ => by simp at hk
  | x :: l, 0, b, _, hk, hb => by
    simp at hk; subst hk
    simp [runL, hb]
  | x :: l, k + 1, b, h, hk, hb => by
    have hx := h 0 x (by omega) (by simp)
    have := runL_stop (l := l) (k := k) (fun j c hj hc => h (j + 1) c (by omega) (by simpa using hc)) (by simpa using hk) hb
    unfold runL at this ⊢
    rw [List.takeWhile_cons, hx]
    simpa using this
theorem runL_all {p : Int → Bool} : ∀ {l : Str}, (∀ (j : Nat) (c : UInt8), l[j]? = some c → p c.toNat = true) → runL p l = l.length
  | [], _ => rfl
  | x :: l, h => by
    have hx := h 0 x (by simp)
    have := runL_all (l := l) (fun j c hc => h (j + 1) c (by simpa using hc))
    unfold runL at this ⊢
    rw [List.takeWhile_cons, hx]
    simpa using this
def Asc (l : Str) : Prop := ∀ b ∈ l, b.toNat < 128

theorem strAt (l : Str) {i : Nat} (h : i < (⟨l.toArray⟩ : ByteArray).size) : ∃ hi : i < l.length, (⟨l.toArray⟩ : ByteArray)[i]'h = l[i] := ⟨h, rfl⟩

set_option maxRecDepth 100000 in
set_option maxHeartbeats 2000000 in
theorem run_166 (l : Str) (hl : Asc l) (w : World) :
    Calls Tryz.prog 165 #[S l, .func (.func 166) #[] #[]] w fun e w' => e = .returned (I (runL blankR l)) ∧ Below w.heap.size w w' := by
  have HA := Lib.hid hl
  clear hl
  go_enter Tryz.func165, Tryz.ntmps165
  go_wp2
  go_loopg [5] l.length (fun gh v wr => ∃ pos, gh + pos = l.length ∧ wr = w.iter ⟨l.toArray⟩ pos ∧ Hid (∀ j c, j < pos → l[j]? = some c → blankR c.toNat = true))
  case atStart => exact ⟨0, rfl, rfl, Lib.hid (fun j c h => by omega)⟩
  case round =>
    obtain ⟨pos, hg, rfl, HP⟩ := hrel
    by_cases hlt : pos < l.length
    · have hsz : pos < (⟨l.toArray⟩ : ByteArray).size := hlt
      obtain ⟨b, hb⟩ : ∃ b, b = l[pos] := ⟨_, rfl⟩
      have hbl : b.toNat < 128 := HA.out b (by rw [hb]; exact List.getElem_mem hlt)
      have hbb : ((⟨l.toArray⟩ : ByteArray)[pos]'hsz) = b := by rw [hb]; rfl
      have hnx : ∀ ty, (Instr.next (.pointer (some ⟨w.heap.size, 0, none⟩)) true ty).run Tryz.prog (w.iter ⟨l.toArray⟩ pos) = _ := fun ty => run_next_ascii w ⟨l.toArray⟩ pos ty hsz (by rw [hbb]; exact hbl)
      rw [hbb] at hnx
      have HB := Lib.hid (show l[pos]? = some b by rw [hb]; exact List.getElem?_eq_getElem hlt)
      have HLT := Lib.hid hlt
      clear hb hbb
      go_upto_region 4 with (fail)
      cases hp : blankR b.toNat
      · have hr : runL blankR l = pos := runL_stop HP.out HB.out hp
        have HR := Lib.hid hr
        have HPB := Lib.hid hp
        clear hp hr
        go_wp2_with (first
          | (go_at_fn 166; refine (blank_any _ _ (by omega) (by omega)).mono ?_; rintro e w1 ⟨rfl, rfl⟩; rw [HPB.out])
          | (go_at_call 166; refine (blank_any _ _ (by omega) (by omega)).mono ?_; rintro e w1 ⟨rfl, rfl⟩; rw [HPB.out]))
        go_ret
        exact ⟨by rw [HR.out]; rfl, below_a1 _ _⟩
      · have HPB := Lib.hid hp
        clear hp
        go_wp2_with (first
          | (go_at_fn 166; refine (blank_any _ _ (by omega) (by omega)).mono ?_; rintro e w1 ⟨rfl, rfl⟩; rw [HPB.out])
          | (go_at_call 166; refine (blank_any _ _ (by omega) (by omega)).mono ?_; rintro e w1 ⟨rfl, rfl⟩; rw [HPB.out]))
        go_roundg (l.length - (pos + 1))
        case measure => have := HLT.out; omega
        case rel =>
          refine ⟨pos + 1, by have := HLT.out; omega, rfl, Lib.hid (fun j c hj hc => ?_)⟩
          by_cases hjp : j < pos
          · exact HP.out j c hjp hc
          · obtain rfl : j = pos := by omega
            rw [HB.out] at hc
            cases hc
            exact HPB.out
    · have hnx : ∀ ty, (Instr.next (.pointer (some ⟨w.heap.size, 0, none⟩)) true ty).run Tryz.prog (w.iter ⟨l.toArray⟩ pos) = _ := fun ty => run_next_end w ⟨l.toArray⟩ pos ty hlt
      have hr : runL blankR l = l.length := runL_all (fun j c hc => HP.out j c (by have := (List.getElem?_eq_some_iff.1 hc).1; omega) hc)
      have HR := Lib.hid hr
      clear hr
      go_wp2
      go_ret
      exact ⟨by rw [HR.out]; rfl, below_a1 _ _⟩
set_option maxRecDepth 100000 in
set_option maxHeartbeats 2000000 in
theorem run_172 (l : Str) (hl : Asc l) (w : World) :
    Calls Tryz.prog 165 #[S l, .func (.func 172) #[] #[]] w fun e w' => e = .returned (I (runL digitR l)) ∧ Below w.heap.size w w' := by
  have HA := Lib.hid hl
  clear hl
  go_enter Tryz.func165, Tryz.ntmps165
  go_wp2
  go_loopg [5] l.length (fun gh v wr => ∃ pos, gh + pos = l.length ∧ wr = w.iter ⟨l.toArray⟩ pos ∧ Hid (∀ j c, j < pos → l[j]? = some c → digitR c.toNat = true))
  case atStart => exact ⟨0, rfl, rfl, Lib.hid (fun j c h => by omega)⟩
  case round =>
    obtain ⟨pos, hg, rfl, HP⟩ := hrel
    by_cases hlt : pos < l.length
    · have hsz : pos < (⟨l.toArray⟩ : ByteArray).size := hlt
      obtain ⟨b, hb⟩ : ∃ b, b = l[pos] := ⟨_, rfl⟩
      have hbl : b.toNat < 128 := HA.out b (by rw [hb]; exact List.getElem_mem hlt)
      have hbb : ((⟨l.toArray⟩ : ByteArray)[pos]'hsz) = b := by rw [hb]; rfl
      have hnx : ∀ ty, (Instr.next (.pointer (some ⟨w.heap.size, 0, none⟩)) true ty).run Tryz.prog (w.iter ⟨l.toArray⟩ pos) = _ := fun ty => run_next_ascii w ⟨l.toArray⟩ pos ty hsz (by rw [hbb]; exact hbl)
      rw [hbb] at hnx
      have HB := Lib.hid (show l[pos]? = some b by rw [hb]; exact List.getElem?_eq_getElem hlt)
      have HLT := Lib.hid hlt
      clear hb hbb
      go_upto_region 4 with (fail)
      cases hp : digitR b.toNat
      · have hr : runL digitR l = pos := runL_stop HP.out HB.out hp
        have HR := Lib.hid hr
        have HPB := Lib.hid hp
        clear hp hr
        go_wp2_with (first
          | (go_at_fn 172; refine (digit_any _ _ (by omega) (by omega)).mono ?_; rintro e w1 ⟨rfl, rfl⟩; rw [HPB.out])
          | (go_at_call 172; refine (digit_any _ _ (by omega) (by omega)).mono ?_; rintro e w1 ⟨rfl, rfl⟩; rw [HPB.out]))
        go_ret
        exact ⟨by rw [HR.out]; rfl, below_a1 _ _⟩
      · have HPB := Lib.hid hp
        clear hp
        go_wp2_with (first
          | (go_at_fn 172; refine (digit_any _ _ (by omega) (by omega)).mono ?_; rintro e w1 ⟨rfl, rfl⟩; rw [HPB.out])
          | (go_at_call 172; refine (digit_any _ _ (by omega) (by omega)).mono ?_; rintro e w1 ⟨rfl, rfl⟩; rw [HPB.out]))
        go_roundg (l.length - (pos + 1))
        case measure => have := HLT.out; omega
        case rel =>
          refine ⟨pos + 1, by have := HLT.out; omega, rfl, Lib.hid (fun j c hj hc => ?_)⟩
          by_cases hjp : j < pos
          · exact HP.out j c hjp hc
          · obtain rfl : j = pos := by omega
            rw [HB.out] at hc
            cases hc
            exact HPB.out
    · have hnx : ∀ ty, (Instr.next (.pointer (some ⟨w.heap.size, 0, none⟩)) true ty).run Tryz.prog (w.iter ⟨l.toArray⟩ pos) = _ := fun ty => run_next_end w ⟨l.toArray⟩ pos ty hlt
      have hr : runL digitR l = l.length := runL_all (fun j c hc => HP.out j c (by have := (List.getElem?_eq_some_iff.1 hc).1; omega) hc)
      have HR := Lib.hid hr
      clear hr
      go_wp2
      go_ret
      exact ⟨by rw [HR.out]; rfl, below_a1 _ _⟩
set_option maxRecDepth 100000 in
set_option maxHeartbeats 2000000 in
theorem run_198 (l : Str) (hl : Asc l) (w : World) :
    Calls Tryz.prog 165 #[S l, .func (.func 198) #[] #[]] w fun e w' => e = .returned (I (runL wordR l)) ∧ Below w.heap.size w w' := by
  have HA := Lib.hid hl
  clear hl
  go_enter Tryz.func165, Tryz.ntmps165
  go_wp2
  go_loopg [5] l.length (fun gh v wr => ∃ pos, gh + pos = l.length ∧ wr = w.iter ⟨l.toArray⟩ pos ∧ Hid (∀ j c, j < pos → l[j]? = some c → wordR c.toNat = true))
  case atStart => exact ⟨0, rfl, rfl, Lib.hid (fun j c h => by omega)⟩
  case round =>
    obtain ⟨pos, hg, rfl, HP⟩ := hrel
    by_cases hlt : pos < l.length
    · have hsz : pos < (⟨l.toArray⟩ : ByteArray).size := hlt
      obtain ⟨b, hb⟩ : ∃ b, b = l[pos] := ⟨_, rfl⟩
      have hbl : b.toNat < 128 := HA.out b (by rw [hb]; exact List.getElem_mem hlt)
      have hbb : ((⟨l.toArray⟩ : ByteArray)[pos]'hsz) = b := by rw [hb]; rfl
      have hnx : ∀ ty, (Instr.next (.pointer (some ⟨w.heap.size, 0, none⟩)) true ty).run Tryz.prog (w.iter ⟨l.toArray⟩ pos) = _ := fun ty => run_next_ascii w ⟨l.toArray⟩ pos ty hsz (by rw [hbb]; exact hbl)
      rw [hbb] at hnx
      have HB := Lib.hid (show l[pos]? = some b by rw [hb]; exact List.getElem?_eq_getElem hlt)
      have HLT := Lib.hid hlt
      clear hb hbb
      go_upto_region 4 with (fail)
      cases hp : wordR b.toNat
      · have hr : runL wordR l = pos := runL_stop HP.out HB.out hp
        have HR := Lib.hid hr
        have HPB := Lib.hid hp
        clear hp hr
        go_wp2_with (first
          | (go_at_fn 198; refine (wordc_any _ _ (by omega) (by omega)).mono ?_; rintro e w1 ⟨rfl, rfl⟩; rw [HPB.out])
          | (go_at_call 198; refine (wordc_any _ _ (by omega) (by omega)).mono ?_; rintro e w1 ⟨rfl, rfl⟩; rw [HPB.out]))
        go_ret
        exact ⟨by rw [HR.out]; rfl, below_a1 _ _⟩
      · have HPB := Lib.hid hp
        clear hp
        go_wp2_with (first
          | (go_at_fn 198; refine (wordc_any _ _ (by omega) (by omega)).mono ?_; rintro e w1 ⟨rfl, rfl⟩; rw [HPB.out])
          | (go_at_call 198; refine (wordc_any _ _ (by omega) (by omega)).mono ?_; rintro e w1 ⟨rfl, rfl⟩; rw [HPB.out]))
        go_roundg (l.length - (pos + 1))
        case measure => have := HLT.out; omega
        case rel =>
          refine ⟨pos + 1, by have := HLT.out; omega, rfl, Lib.hid (fun j c hj hc => ?_)⟩
          by_cases hjp : j < pos
          · exact HP.out j c hjp hc
          · obtain rfl : j = pos := by omega
            rw [HB.out] at hc
            cases hc
            exact HPB.out
    · have hnx : ∀ ty, (Instr.next (.pointer (some ⟨w.heap.size, 0, none⟩)) true ty).run Tryz.prog (w.iter ⟨l.toArray⟩ pos) = _ := fun ty => run_next_end w ⟨l.toArray⟩ pos ty hlt
      have hr : runL wordR l = l.length := runL_all (fun j c hc => HP.out j c (by have := (List.getElem?_eq_some_iff.1 hc).1; omega) hc)
      have HR := Lib.hid hr
      clear hr
      go_wp2
      go_ret
      exact ⟨by rw [HR.out]; rfl, below_a1 _ _⟩
end Go.Proofs.YtjgbkdbkachciaaGreatDoor
