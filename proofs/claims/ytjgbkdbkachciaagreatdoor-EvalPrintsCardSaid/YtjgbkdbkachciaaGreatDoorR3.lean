import Derived.Test.YtjgbkdbkachciaaGreatDoorR2
namespace Go.Proofs.YtjgbkdbkachciaaGreatDoor
open Go.RowKit Go.Shelf
attribute [local go_sem] Oper.semAt_some

set_option maxRecDepth 100000 in
set_option maxHeartbeats 4000000 in
theorem word_any (l : Str) (w : World) : Calls Tryz.prog 177 #[S l] w fun e w' => e = .returned (.bool (isWord l)) ∧ w = w' := by
  by_cases hw : l ∈ wordsL
  · simp only [wordsL, List.mem_cons, List.not_mem_nil, or_false] at hw
    rcases hw with rfl | rfl | rfl | rfl | rfl | rfl | rfl | rfl | rfl | rfl
    all_goals
      go_enter Tryz.func177, Tryz.ntmps177
      go_wp2
      go_ret
      exact ⟨rfl, rfl⟩
  · have hf : isWord l = false := by simpa [isWord] using hw
    have h0 : (l == [105, 110, 116]) = false := beq_eq_false_iff_ne.2 (fun e => hw (by rw [e]; decide))
    have h1 : (l == [105, 102]) = false := beq_eq_false_iff_ne.2 (fun e => hw (by rw [e]; decide))
    have h2 : (l == [101, 108, 115, 101]) = false := beq_eq_false_iff_ne.2 (fun e => hw (by rw [e]; decide))
    have h3 : (l == [119, 104, 105, 108, 101]) = false := beq_eq_false_iff_ne.2 (fun e => hw (by rw [e]; decide))
    have h4 : (l == [98, 114, 101, 97, 107]) = false := beq_eq_false_iff_ne.2 (fun e => hw (by rw [e]; decide))
    have h5 : (l == [99, 111, 110, 116, 105, 110, 117, 101]) = false := beq_eq_false_iff_ne.2 (fun e => hw (by rw [e]; decide))
    have h6 : (l == [114, 101, 116, 117, 114, 110]) = false := beq_eq_false_iff_ne.2 (fun e => hw (by rw [e]; decide))
    have h7 : (l == [112, 114, 105, 110, 116]) = false := beq_eq_false_iff_ne.2 (fun e => hw (by rw [e]; decide))
    have h8 : (l == [114, 101, 97, 100]) = false := beq_eq_false_iff_ne.2 (fun e => hw (by rw [e]; decide))
    have h9 : (l == [116, 114, 97, 112]) = false := beq_eq_false_iff_ne.2 (fun e => hw (by rw [e]; decide))
    have HF := Lib.hid hf
    clear hf hw
    go_enter Tryz.func177, Tryz.ntmps177
    go_wp2
    go_ret
    exact ⟨by rw [HF.out]; rfl, rfl⟩

/-- a text of so many of ASCII that may be a name -/
theorem isName_parts {l : Str} (h : isName l = true) : l ≠ [] ∧ l.length ≤ 20 ∧ isWord l = false ∧ (∀ b, l[0]? = some b → letterR b.toNat = true) ∧ ∀ (j : Nat) (b : UInt8), l[j]? = some b → wordR b.toNat = true := by
  unfold isName at h
  simp only [Bool.and_eq_true, Bool.not_eq_true', decide_eq_true_eq, List.all_eq_true] at h
  obtain ⟨⟨⟨⟨h1, h2⟩, h3⟩, h4⟩, h5⟩ := h
  refine ⟨by intro e; subst e; simp at h1, h2, h3, fun b hb => ?_, fun j b hj => ?_⟩
  · rw [List.head?_eq_getElem?, hb] at h4
    simp at h4
    rw [← isLetter_eq]; exact h4
  · have := h5 b (List.mem_of_getElem? hj)
    unfold wordR
    rw [← isLetter_eq, ← isDigit_eq]; exact this

set_option maxRecDepth 100000 in
set_option maxHeartbeats 4000000 in
/-- of what is a name Name says so -/
theorem name_yes (l : Str) (ha : Asc l) (hn : isName l = true) (w : World) : Calls Tryz.prog 117 #[S l] w fun e w' => e = .returned (.bool true) ∧ Below w.heap.size w w' := by
  obtain ⟨h1, h2, h3, h4, h5⟩ := isName_parts hn
  have HA := Lib.hid ha
  have H3 := Lib.hid h3
  have H4 := Lib.hid h4
  have H5 := Lib.hid h5
  have hnil : (l == []) = false := beq_eq_false_iff_ne.2 h1
  have hlen : ¬ (l.length : Int) > 20 := by omega
  clear ha hn h1 h3 h4 h5
  go_enter Tryz.func117, Tryz.ntmps117
  go_wp2_with (first
    | (go_at_call 177; refine (word_any l w).mono ?_; rintro e w1 ⟨rfl, rfl⟩; rw [H3.out]))
  go_loopg [3] l.length (fun gh v wr => ∃ pos, gh + pos = l.length ∧ wr = w.iter ⟨l.toArray⟩ pos)
  case atStart => exact ⟨0, rfl, rfl⟩
  case round =>
    obtain ⟨pos, hg, rfl⟩ := hrel
    by_cases hlt : pos < l.length
    · have hsz : pos < (⟨l.toArray⟩ : ByteArray).size := hlt
      obtain ⟨b, hb⟩ : ∃ b, b = l[pos] := ⟨_, rfl⟩
      have hbl : b.toNat < 128 := HA.out b (by rw [hb]; exact List.getElem_mem hlt)
      have hbb : ((⟨l.toArray⟩ : ByteArray)[pos]'hsz) = b := by rw [hb]; rfl
      have hnx : ∀ ty, (Instr.next (.pointer (some ⟨w.heap.size, 0, none⟩)) true ty).run Tryz.prog (w.iter ⟨l.toArray⟩ pos) = _ := fun ty => run_next_ascii w ⟨l.toArray⟩ pos ty hsz (by rw [hbb]; exact hbl)
      rw [hbb] at hnx
      have hbo : l[pos]? = some b := by rw [hb]; exact List.getElem?_eq_getElem hlt
      have hw5 := H5.out pos b hbo
      have HLT := Lib.hid hlt
      cases hlet : letterR b.toNat
      · have hpos : 0 < pos := by
          rcases Nat.eq_zero_or_pos pos with e | e
          · subst e
            have := H4.out b hbo
            rw [hlet] at this; cases this
          · exact e
        have hdig : digitR b.toNat = true := by
          unfold wordR at hw5
          rw [hlet] at hw5; simpa using hw5
        have hpz : ((pos : Int) == 0) = false := beq_eq_false_iff_ne.2 (by omega)
        have HL := Lib.hid hlet
        have HD := Lib.hid hdig
        clear hb hbb hbo hw5 hlet hdig
        go_wp2_with (first
          | (go_at_call 170; refine (letter_any _ _ (by omega) (by omega)).mono ?_; rintro e w1 ⟨rfl, rfl⟩; rw [HL.out])
          | (go_at_call 172; refine (digit_any _ _ (by omega) (by omega)).mono ?_; rintro e w1 ⟨rfl, rfl⟩; rw [HD.out]))
        go_roundg (l.length - (pos + 1))
        case measure => have := HLT.out; omega
        case rel => exact ⟨pos + 1, by have := HLT.out; omega, rfl⟩
      · have HL := Lib.hid hlet
        clear hb hbb hbo hw5 hlet
        go_wp2_with (first
          | (go_at_call 170; refine (letter_any _ _ (by omega) (by omega)).mono ?_; rintro e w1 ⟨rfl, rfl⟩; rw [HL.out]))
        go_roundg (l.length - (pos + 1))
        case measure => have := HLT.out; omega
        case rel => exact ⟨pos + 1, by have := HLT.out; omega, rfl⟩
    · have hnx : ∀ ty, (Instr.next (.pointer (some ⟨w.heap.size, 0, none⟩)) true ty).run Tryz.prog (w.iter ⟨l.toArray⟩ pos) = _ := fun ty => run_next_end w ⟨l.toArray⟩ pos ty hlt
      go_wp2
      go_ret
      exact ⟨rfl, below_a1 _ _⟩

/-! ### signs -/
abbrev TokV (t : Tok) : Value := .agg #[I t.kind, S t.text, I t.n, I t.line]
/-- the sign at the beginning -/
def signF (l : Str) : Option Str := if l.take 2 ∈ signsL then some (l.take 2) else if l.take 1 ∈ signsL then some (l.take 1) else none
end Go.Proofs.YtjgbkdbkachciaaGreatDoor
