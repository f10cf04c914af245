import Derived.Test.YtjgbkdbkachciaaGreatDoorR1
import Derived.Laws.RangeString
import Derived.Laws.RangeAny
namespace Go.Proofs.YtjgbkdbkachciaaGreatDoor
open Go.RowKit Go.Shelf
attribute [local go_sem] Oper.semAt_some

abbrev R32 (r : Int) : Value := .int .i32 r
def letterR (r : Int) : Bool := decide (r = 95) || (decide (97 ≤ r) && decide (r ≤ 122)) || (decide (65 ≤ r) && decide (r ≤ 90))
def digitR (r : Int) : Bool := decide (48 ≤ r) && decide (r ≤ 57)
def blankR (r : Int) : Bool := decide (r = 32) || decide (r = 9) || decide (r = 10) || decide (r = 13)
theorem isLetter_eq (b : UInt8) : isLetter b = letterR b.toNat := by
  have h : (b == 95) = decide ((b.toNat : Int) = 95) := by
    have : b = 95 ↔ (b.toNat : Int) = 95 := by
      rw [← UInt8.toNat_inj]; simp; omega
    by_cases hb : b = 95
    · rw [decide_eq_true (this.1 hb)]; simpa using hb
    · rw [decide_eq_false (fun e => hb (this.2 e))]; simpa using hb
  unfold isLetter letterR
  rw [h]
  congr 1
  · congr 1
    congr 1 <;> (apply decide_eq_decide.2; omega)
  · congr 1 <;> (apply decide_eq_decide.2; omega)
theorem isDigit_eq (b : UInt8) : isDigit b = digitR b.toNat := by
  unfold isDigit digitR
  congr 1 <;> (apply decide_eq_decide.2; omega)
theorem byte_eq (b : UInt8) (n : UInt8) : (b == n) = decide ((b.toNat : Int) = (n.toNat : Int)) := by
  have : b = n ↔ (b.toNat : Int) = (n.toNat : Int) := by
    rw [← UInt8.toNat_inj]; omega
  by_cases hb : b = n
  · rw [decide_eq_true (this.1 hb)]; simpa using hb
  · rw [decide_eq_false (fun e => hb (this.2 e))]; simpa using hb
theorem isBlank_eq (b : UInt8) : isBlank b = blankR b.toNat := by
  unfold isBlank blankR
  rw [byte_eq b 32, byte_eq b 9, byte_eq b 10, byte_eq b 13]
  rfl

/-- a function of one character -/
def RuneFn (k : Nat) (p : Int → Bool) : Prop := ∀ (r : Int) (w : World), 0 ≤ r → r < 128 → Calls Tryz.prog k #[R32 r] w fun e w' => e = .returned (.bool (p r)) ∧ w = w'

set_option maxRecDepth 100000 in
set_option maxHeartbeats 2000000 in
theorem letter_any : RuneFn 170 letterR := by
  intro r w h0 h1
  go_enter Tryz.func170, Tryz.ntmps170
  go_wp2
  all_goals
    go_ret
    refine ⟨congrArg (fun b => Ending.returned (Value.bool b)) ?_, rfl⟩
    rw [Bool.eq_iff_iff]
    simp [letterR]
    try omega
set_option maxRecDepth 100000 in
set_option maxHeartbeats 2000000 in
theorem digit_any : RuneFn 172 digitR := by
  intro r w h0 h1
  go_enter Tryz.func172, Tryz.ntmps172
  go_wp2
  all_goals
    go_ret
    refine ⟨congrArg (fun b => Ending.returned (Value.bool b)) ?_, rfl⟩
    rw [Bool.eq_iff_iff]
    simp [digitR]
    try omega
set_option maxRecDepth 100000 in
set_option maxHeartbeats 2000000 in
theorem blank_any : RuneFn 166 blankR := by
  intro r w h0 h1
  go_enter Tryz.func166, Tryz.ntmps166
  go_wp2
  all_goals
    go_ret
    refine ⟨congrArg (fun b => Ending.returned (Value.bool b)) ?_, rfl⟩
    rw [Bool.eq_iff_iff]
    simp [blankR]
    try omega

def wordR (r : Int) : Bool := letterR r || digitR r
set_option maxRecDepth 100000 in
set_option maxHeartbeats 2000000 in
theorem wordc_any : RuneFn 198 wordR := by
  intro r w h0 h1
  cases hl : letterR r
  all_goals
    have HL := Lib.hid hl
    clear hl
    go_enter Tryz.func198, Tryz.ntmps198
    go_wp2_with (first
      | (go_at_call 170; refine (letter_any r w h0 h1).mono ?_; rintro e w1 ⟨rfl, rfl⟩; rw [HL.out])
      | (go_at_call 172; refine (digit_any r w h0 h1).mono ?_; rintro e w1 ⟨rfl, rfl⟩))
    go_ret
    refine ⟨?_, rfl⟩
    unfold wordR
    rw [HL.out]
    rfl

/-- how many characters at the beginning are such -/
def runL (p : Int → Bool) (l : Str) : Nat := (l.takeWhile fun b => p b.toNat).length
theorem runL_stop {p : Int → Bool} : ∀ {l : Str} {k : Nat} {b : UInt8}, (∀ (j : Nat) (c : UInt8), j < k → l[j]? = some c → p c.toNat = true) → l[k]? = some b → p b.toNat = false → runL p l = k
  | [], k, b, _, hk, _ => by simp at hk
  | x :: l, 0, b, _, hk, hb => by
    simp at hk; subst hk
    simp [runL, hb]
  | x :: l, k + 1, b, h, hk, hb => by
    have hx := h 0 x (by omega) (by simp)
    have := runL_stop (l := l) (k := k) (fun j c hj hc => h (j + 1) c (by omega) (by simpa using hc)) (by simpa using hk) hb
    unfold runL at this ⊢
    rw [List.takeWhile_cons, hx]
    simpa using this
theorem runL_all {p : Int → Bool} : ∀ {l : Str}, (∀ (j : Nat) (c : UInt8), l[j]? = some c → p c.toNat = true) → runL p l = l.length
  | [], _ => rfl
  | x :: l, h => by
    have hx := h 0 x (by simp)
    have := runL_all (l := l) (fun j c hc => h (j + 1) c (by simpa using hc))
    unfold runL at this ⊢
    rw [List.takeWhile_cons, hx]
    simpa using this
def Asc (l : Str) : Prop := ∀ b ∈ l, b.toNat < 128

theorem strAt (l : Str) {i : Nat} (h : i < (⟨l.toArray⟩ : ByteArray).size) : ∃ hi : i < l.length, (⟨l.toArray⟩ : ByteArray)[i]'h = l[i] := ⟨h, rfl⟩

set_option maxRecDepth 100000 in
set_option maxHeartbeats 2000000 in
theorem run_166 (l : Str) (hl : Asc l) (w : World) :
    Calls Tryz.prog 165 #[S l, .func (.func 166) #[] #[]] w fun e w' => e = .returned (I (runL blankR l)) ∧ Below w.heap.size w w' := by
  have HA := Lib.hid hl
  clear hl
  go_enter Tryz.func165, Tryz.ntmps165
  go_wp2
  go_loopg [5] l.length (fun gh v wr => ∃ pos, gh + pos = l.length ∧ wr = w.iter ⟨l.toArray⟩ pos ∧ Hid (∀ j c, j < pos → l[j]? = some c → blankR c.toNat = true))
  case atStart => exact ⟨0, rfl, rfl, Lib.hid (fun j c h => by omega)⟩
  case round =>
    obtain ⟨pos, hg, rfl, HP⟩ := hrel
    by_cases hlt : pos < l.length
    · have hsz : pos < (⟨l.toArray⟩ : ByteArray).size := hlt
      obtain ⟨b, hb⟩ : ∃ b, b = l[pos] := ⟨_, rfl⟩
      have hbl : b.toNat < 128 := HA.out b (by rw [hb]; exact List.getElem_mem hlt)
      have hbb : ((⟨l.toArray⟩ : ByteArray)[pos]'hsz) = b := by rw [hb]; rfl
      have hnx : ∀ ty, (Instr.next (.pointer (some ⟨w.heap.size, 0, none⟩)) true ty).run Tryz.prog (w.iter ⟨l.toArray⟩ pos) = _ := fun ty => run_next_ascii w ⟨l.toArray⟩ pos ty hsz (by rw [hbb]; exact hbl)
      rw [hbb] at hnx
      have HB := Lib.hid (show l[pos]? = some b by rw [hb]; exact List.getElem?_eq_getElem hlt)
      have HLT := Lib.hid hlt
      clear hb hbb
      go_upto_region 4 with (fail)
      cases hp : blankR b.toNat
      · have hr : runL blankR l = pos := runL_stop HP.out HB.out hp
        have HR := Lib.hid hr
        have HPB := Lib.hid hp
        clear hp hr
        go_wp2_with (first
          | (go_at_fn 166; refine (blank_any _ _ (by omega) (by omega)).mono ?_; rintro e w1 ⟨rfl, rfl⟩; rw [HPB.out])
          | (go_at_call 166; refine (blank_any _ _ (by omega) (by omega)).mono ?_; rintro e w1 ⟨rfl, rfl⟩; rw [HPB.out]))
        go_ret
        exact ⟨by rw [HR.out]; rfl, below_a1 _ _⟩
      · have HPB := Lib.hid hp
        clear hp
        go_wp2_with (first
          | (go_at_fn 166; refine (blank_any _ _ (by omega) (by omega)).mono ?_; rintro e w1 ⟨rfl, rfl⟩; rw [HPB.out])
          | (go_at_call 166; refine (blank_any _ _ (by omega) (by omega)).mono ?_; rintro e w1 ⟨rfl, rfl⟩; rw [HPB.out]))
        go_roundg (l.length - (pos + 1))
        case measure => have := HLT.out; omega
        case rel =>
          refine ⟨pos + 1, by have := HLT.out; omega, rfl, Lib.hid (fun j c hj hc => ?_)⟩
          by_cases hjp : j < pos
          · exact HP.out j c hjp hc
          · obtain rfl : j = pos := by omega
            rw [HB.out] at hc
            cases hc
            exact HPB.out
    · have hnx : ∀ ty, (Instr.next (.pointer (some ⟨w.heap.size, 0, none⟩)) true ty).run Tryz.prog (w.iter ⟨l.toArray⟩ pos) = _ := fun ty => run_next_end w ⟨l.toArray⟩ pos ty hlt
      have hr : runL blankR l = l.length := runL_all (fun j c hc => HP.out j c (by have := (List.getElem?_eq_some_iff.1 hc).1; omega) hc)
      have HR := Lib.hid hr
      clear hr
      go_wp2
      go_ret
      exact ⟨by rw [HR.out]; rfl, below_a1 _ _⟩
set_option maxRecDepth 100000 in
set_option maxHeartbeats 2000000 in
theorem run_172 (l : Str) (hl : Asc l) (w : World) :
    Calls Tryz.prog 165 #[S l, .func (.func 172) #[] #[]] w fun e w' => e = .returned (I (runL digitR l)) ∧ Below w.heap.size w w' := by
  have HA := Lib.hid hl
  clear hl
  go_enter Tryz.func165, Tryz.ntmps165
  go_wp2
  go_loopg [5] l.length (fun gh v wr => ∃ pos, gh + pos = l.length ∧ wr = w.iter ⟨l.toArray⟩ pos ∧ Hid (∀ j c, j < pos → l[j]? = some c → digitR c.toNat = true))
  case atStart => exact ⟨0, rfl, rfl, Lib.hid (fun j c h => by omega)⟩
  case round =>
    obtain ⟨pos, hg, rfl, HP⟩ := hrel
    by_cases hlt : pos < l.length
    · have hsz : pos < (⟨l.toArray⟩ : ByteArray).size := hlt
      obtain ⟨b, hb⟩ : ∃ b, b = l[pos] := ⟨_, rfl⟩
      have hbl : b.toNat < 128 := HA.out b (by rw [hb]; exact List.getElem_mem hlt)
      have hbb : ((⟨l.toArray⟩ : ByteArray)[pos]'hsz) = b := by rw [hb]; rfl
      have hnx : ∀ ty, (Instr.next (.pointer (some ⟨w.heap.size, 0, none⟩)) true ty).run Tryz.prog (w.iter ⟨l.toArray⟩ pos) = _ := fun ty => run_next_ascii w ⟨l.toArray⟩ pos ty hsz (by rw [hbb]; exact hbl)
      rw [hbb] at hnx
      have HB := Lib.hid (show l[pos]? = some b by rw [hb]; exact List.getElem?_eq_getElem hlt)
      have HLT := Lib.hid hlt
      clear hb hbb
      go_upto_region 4 with (fail)
      cases hp : digitR b.toNat
      · have hr : runL digitR l = pos := runL_stop HP.out HB.out hp
        have HR := Lib.hid hr
        have HPB := Lib.hid hp
        clear hp hr
        go_wp2_with (first
          | (go_at_fn 172; refine (digit_any _ _ (by omega) (by omega)).mono ?_; rintro e w1 ⟨rfl, rfl⟩; rw [HPB.out])
          | (go_at_call 172; refine (digit_any _ _ (by omega) (by omega)).mono ?_; rintro e w1 ⟨rfl, rfl⟩; rw [HPB.out]))
        go_ret
        exact ⟨by rw [HR.out]; rfl, below_a1 _ _⟩
      · have HPB := Lib.hid hp
        clear hp
        go_wp2_with (first
          | (go_at_fn 172; refine (digit_any _ _ (by omega) (by omega)).mono ?_; rintro e w1 ⟨rfl, rfl⟩; rw [HPB.out])
          | (go_at_call 172; refine (digit_any _ _ (by omega) (by omega)).mono ?_; rintro e w1 ⟨rfl, rfl⟩; rw [HPB.out]))
        go_roundg (l.length - (pos + 1))
        case measure => have := HLT.out; omega
        case rel =>
          refine ⟨pos + 1, by have := HLT.out; omega, rfl, Lib.hid (fun j c hj hc => ?_)⟩
          by_cases hjp : j < pos
          · exact HP.out j c hjp hc
          · obtain rfl : j = pos := by omega
            rw [HB.out] at hc
            cases hc
            exact HPB.out
    · have hnx : ∀ ty, (Instr.next (.pointer (some ⟨w.heap.size, 0, none⟩)) true ty).run Tryz.prog (w.iter ⟨l.toArray⟩ pos) = _ := fun ty => run_next_end w ⟨l.toArray⟩ pos ty hlt
      have hr : runL digitR l = l.length := runL_all (fun j c hc => HP.out j c (by have := (List.getElem?_eq_some_iff.1 hc).1; omega) hc)
      have HR := Lib.hid hr
      clear hr
      go_wp2
      go_ret
      exact ⟨by rw [HR.out]; rfl, below_a1 _ _⟩
set_option maxRecDepth 100000 in
set_option maxHeartbeats 2000000 in
theorem run_198 (l : Str) (hl : Asc l) (w : World) :
    Calls Tryz.prog 165 #[S l, .func (.func 198) #[] #[]] w fun e w' => e = .returned (I (runL wordR l)) ∧ Below w.heap.size w w' := by
  have HA := Lib.hid hl
  clear hl
  go_enter Tryz.func165, Tryz.ntmps165
  go_wp2
  go_loopg [5] l.length (fun gh v wr => ∃ pos, gh + pos = l.length ∧ wr = w.iter ⟨l.toArray⟩ pos ∧ Hid (∀ j c, j < pos → l[j]? = some c → wordR c.toNat = true))
  case atStart => exact ⟨0, rfl, rfl, Lib.hid (fun j c h => by omega)⟩
  case round =>
    obtain ⟨pos, hg, rfl, HP⟩ := hrel
    by_cases hlt : pos < l.length
    · have hsz : pos < (⟨l.toArray⟩ : ByteArray).size := hlt
      obtain ⟨b, hb⟩ : ∃ b, b = l[pos] := ⟨_, rfl⟩
      have hbl : b.toNat < 128 := HA.out b (by rw [hb]; exact List.getElem_mem hlt)
      have hbb : ((⟨l.toArray⟩ : ByteArray)[pos]'hsz) = b := by rw [hb]; rfl
      have hnx : ∀ ty, (Instr.next (.pointer (some ⟨w.heap.size, 0, none⟩)) true ty).run Tryz.prog (w.iter ⟨l.toArray⟩ pos) = _ := fun ty => run_next_ascii w ⟨l.toArray⟩ pos ty hsz (by rw [hbb]; exact hbl)
      rw [hbb] at hnx
      have HB := Lib.hid (show l[pos]? = some b by rw [hb]; exact List.getElem?_eq_getElem hlt)
      have HLT := Lib.hid hlt
      clear hb hbb
      go_upto_region 4 with (fail)
      cases hp : wordR b.toNat
      · have hr : runL wordR l = pos := runL_stop HP.out HB.out hp
        have HR := Lib.hid hr
        have HPB := Lib.hid hp
        clear hp hr
        go_wp2_with (first
          | (go_at_fn 198; refine (wordc_any _ _ (by omega) (by omega)).mono ?_; rintro e w1 ⟨rfl, rfl⟩; rw [HPB.out])
          | (go_at_call 198; refine (wordc_any _ _ (by omega) (by omega)).mono ?_; rintro e w1 ⟨rfl, rfl⟩; rw [HPB.out]))
        go_ret
        exact ⟨by rw [HR.out]; rfl, below_a1 _ _⟩
      · have HPB := Lib.hid hp
        clear hp
        go_wp2_with (first
          | (go_at_fn 198; refine (wordc_any _ _ (by omega) (by omega)).mono ?_; rintro e w1 ⟨rfl, rfl⟩; rw [HPB.out])
          | (go_at_call 198; refine (wordc_any _ _ (by omega) (by omega)).mono ?_; rintro e w1 ⟨rfl, rfl⟩; rw [HPB.out]))
        go_roundg (l.length - (pos + 1))
        case measure => have := HLT.out; omega
        case rel =>
          refine ⟨pos + 1, by have := HLT.out; omega, rfl, Lib.hid (fun j c hj hc => ?_)⟩
          by_cases hjp : j < pos
          · exact HP.out j c hjp hc
          · obtain rfl : j = pos := by omega
            rw [HB.out] at hc
            cases hc
            exact HPB.out
    · have hnx : ∀ ty, (Instr.next (.pointer (some ⟨w.heap.size, 0, none⟩)) true ty).run Tryz.prog (w.iter ⟨l.toArray⟩ pos) = _ := fun ty => run_next_end w ⟨l.toArray⟩ pos ty hlt
      have hr : runL wordR l = l.length := runL_all (fun j c hc => HP.out j c (by have := (List.getElem?_eq_some_iff.1 hc).1; omega) hc)
      have HR := Lib.hid hr
      clear hr
      go_wp2
      go_ret
      exact ⟨by rw [HR.out]; rfl, below_a1 _ _⟩
end Go.Proofs.YtjgbkdbkachciaaGreatDoor
