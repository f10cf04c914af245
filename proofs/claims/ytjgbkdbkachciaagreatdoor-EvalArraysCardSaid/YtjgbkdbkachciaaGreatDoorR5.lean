import Derived.Test.YtjgbkdbkachciaaGreatDoorR2
import Derived.Deep.CutBlock
import Derived.Lib.Strings
namespace Go.Proofs.YtjgbkdbkachciaaGreatDoor
open Go.RowKit Go.Shelf
attribute [local go_sem] Oper.semAt_some

set_option maxRecDepth 100000 in
set_option maxHeartbeats 4000000 in
theorem word_any (l : Str) (w : World) : Calls Tryz.prog 177 #[S l] w fun e w' => e = .returned (.bool (isWord l)) ∧ w = w' := by
  by_cases hw : l ∈ wordsL
  · simp only [wordsL, List.mem_cons, List.not_mem_nil, or_false] at hw
    rcases hw with rfl | rfl | rfl | rfl | rfl | rfl | rfl | rfl | rfl | rfl
    all_goals
      go_enter Tryz.func177, Tryz.ntmps177
      go_wp2
      go_ret
      exact ⟨rfl, rfl⟩
  · have hf : isWord l = false := by simpa [isWord] using hw
    have h0 : (l == [105, 110, 116]) = false := beq_eq_false_iff_ne.2 (fun e => hw (by rw [e]; decide))
    have h1 : (l == [105, 102]) = false := beq_eq_false_iff_ne.2 (fun e => hw (by rw [e]; decide))
    have h2 : (l == [101, 108, 115, 101]) = false := beq_eq_false_iff_ne.2 (fun e => hw (by rw [e]; decide))
    have h3 : (l == [119, 104, 105, 108, 101]) = false := beq_eq_false_iff_ne.2 (fun e => hw (by rw [e]; decide))
    have h4 : (l == [98, 114, 101, 97, 107]) = false := beq_eq_false_iff_ne.2 (fun e => hw (by rw [e]; decide))
    have h5 : (l == [99, 111, 110, 116, 105, 110, 117, 101]) = false := beq_eq_false_iff_ne.2 (fun e => hw (by rw [e]; decide))
    have h6 : (l == [114, 101, 116, 117, 114, 110]) = false := beq_eq_false_iff_ne.2 (fun e => hw (by rw [e]; decide))
    have h7 : (l == [112, 114, 105, 110, 116]) = false := beq_eq_false_iff_ne.2 (fun e => hw (by rw [e]; decide))
    have h8 : (l == [114, 101, 97, 100]) = false := beq_eq_false_iff_ne.2 (fun e => hw (by rw [e]; decide))
    have h9 : (l == [116, 114, 97, 112]) = false := beq_eq_false_iff_ne.2 (fun e => hw (by rw [e]; decide))
    have HF := Lib.hid hf
    clear hf hw
    go_enter Tryz.func177, Tryz.ntmps177
    go_wp2
    go_ret
    exact ⟨by rw [HF.out]; rfl, rfl⟩

/-- a text of so many of ASCII that may be a name -/
theorem isName_parts {l : Str} (h : isName l = true) : l ≠ [] ∧ l.length ≤ 20 ∧ isWord l = false ∧ (∀ b, l[0]? = some b → letterR b.toNat = true) ∧ ∀ (j : Nat) (b : UInt8), l[j]? = some b → wordR b.toNat = true := by
  unfold isName at h
  simp only [Bool.and_eq_true, Bool.not_eq_true', decide_eq_true_eq, List.all_eq_true] at h
  obtain ⟨⟨⟨⟨h1, h2⟩, h3⟩, h4⟩, h5⟩ := h
  refine ⟨by intro e; subst e; simp at h1, h2, h3, fun b hb => ?_, fun j b hj => ?_⟩
  · rw [List.head?_eq_getElem?, hb] at h4
    simp at h4
    rw [← isLetter_eq]; exact h4
  · have := h5 b (List.mem_of_getElem? hj)
    unfold wordR
    rw [← isLetter_eq, ← isDigit_eq]; exact this

set_option maxRecDepth 100000 in
set_option maxHeartbeats 4000000 in
/-- of what is a name Name says so -/
theorem name_yes (l : Str) (ha : Asc l) (hn : isName l = true) (w : World) : Calls Tryz.prog 117 #[S l] w fun e w' => e = .returned (.bool true) ∧ Below w.heap.size w w' := by
  obtain ⟨h1, h2, h3, h4, h5⟩ := isName_parts hn
  have HA := Lib.hid ha
  have H3 := Lib.hid h3
  have H4 := Lib.hid h4
  have H5 := Lib.hid h5
  have hnil : (l == []) = false := beq_eq_false_iff_ne.2 h1
  have hlen : ¬ (l.length : Int) > 20 := by omega
  clear ha hn h1 h3 h4 h5
  go_enter Tryz.func117, Tryz.ntmps117
  go_wp2_with (first
    | (go_at_call 177; refine (word_any l w).mono ?_; rintro e w1 ⟨rfl, rfl⟩; rw [H3.out]))
  go_loopg [3] l.length (fun gh v wr => ∃ pos, gh + pos = l.length ∧ wr = w.iter ⟨l.toArray⟩ pos)
  case atStart => exact ⟨0, rfl, rfl⟩
  case round =>
    obtain ⟨pos, hg, rfl⟩ := hrel
    by_cases hlt : pos < l.length
    · have hsz : pos < (⟨l.toArray⟩ : ByteArray).size := hlt
      obtain ⟨b, hb⟩ : ∃ b, b = l[pos] := ⟨_, rfl⟩
      have hbl : b.toNat < 128 := HA.out b (by rw [hb]; exact List.getElem_mem hlt)
      have hbb : ((⟨l.toArray⟩ : ByteArray)[pos]'hsz) = b := by rw [hb]; rfl
      have hnx : ∀ ty, (Instr.next (.pointer (some ⟨w.heap.size, 0, none⟩)) true ty).run Tryz.prog (w.iter ⟨l.toArray⟩ pos) = _ := fun ty => run_next_ascii w ⟨l.toArray⟩ pos ty hsz (by rw [hbb]; exact hbl)
      rw [hbb] at hnx
      have hbo : l[pos]? = some b := by rw [hb]; exact List.getElem?_eq_getElem hlt
      have hw5 := H5.out pos b hbo
      have HLT := Lib.hid hlt
      cases hlet : letterR b.toNat
      · have hpos : 0 < pos := by
          rcases Nat.eq_zero_or_pos pos with e | e
          · subst e
            have := H4.out b hbo
            rw [hlet] at this; cases this
          · exact e
        have hdig : digitR b.toNat = true := by
          unfold wordR at hw5
          rw [hlet] at hw5; simpa using hw5
        have hpz : ((pos : Int) == 0) = false := beq_eq_false_iff_ne.2 (by omega)
        have HL := Lib.hid hlet
        have HD := Lib.hid hdig
        clear hb hbb hbo hw5 hlet hdig
        go_wp2_with (first
          | (go_at_call 170; refine (letter_any _ _ (by omega) (by omega)).mono ?_; rintro e w1 ⟨rfl, rfl⟩; rw [HL.out])
          | (go_at_call 172; refine (digit_any _ _ (by omega) (by omega)).mono ?_; rintro e w1 ⟨rfl, rfl⟩; rw [HD.out]))
        go_roundg (l.length - (pos + 1))
        case measure => have := HLT.out; omega
        case rel => exact ⟨pos + 1, by have := HLT.out; omega, rfl⟩
      · have HL := Lib.hid hlet
        clear hb hbb hbo hw5 hlet
        go_wp2_with (first
          | (go_at_call 170; refine (letter_any _ _ (by omega) (by omega)).mono ?_; rintro e w1 ⟨rfl, rfl⟩; rw [HL.out]))
        go_roundg (l.length - (pos + 1))
        case measure => have := HLT.out; omega
        case rel => exact ⟨pos + 1, by have := HLT.out; omega, rfl⟩
    · have hnx : ∀ ty, (Instr.next (.pointer (some ⟨w.heap.size, 0, none⟩)) true ty).run Tryz.prog (w.iter ⟨l.toArray⟩ pos) = _ := fun ty => run_next_end w ⟨l.toArray⟩ pos ty hlt
      go_wp2
      go_ret
      exact ⟨rfl, below_a1 _ _⟩

/-! ### signs -/
abbrev TokV (t : Tok) : Value := .agg #[I t.kind, S t.text, I t.n, I t.line]
/-- the sign at the beginning -/
def signF (l : Str) : Option Str := if l.take 2 ∈ signsL then some (l.take 2) else if l.take 1 ∈ signsL then some (l.take 1) else none
end Go.Proofs.YtjgbkdbkachciaaGreatDoor

namespace Go.Proofs.YtjgbkdbkachciaaGreatDoor
open Go.RowKit Go.Shelf
attribute [local go_sem] Oper.semAt_some

theorem results_ct {P : Program} {fn : Func} {p u : Tmp} {ty : TypeId} (h : fn.results = #[.cell p ty, .tmp u]) (tmps : Array Value) (w : World) (g : Nat) (t : TypeId) (cs : Array Value) (fr : Nat × Nat) (d : TypeDesc)
    (hp : tmps.getD p undef = .pointer (some ⟨g, 0, none⟩)) (hg : w.heap[g]? = some (.cells cs t fr))
    (hu : P.underlying ty = some d) (hd : (match d with | .struct _ | .array _ _ => true | _ => false) = true) (hi : (P.info? ty).map (·.size) = some cs.size) :
    (results fn tmps).run P w = .ok (.tuple #[.agg cs, tmps.getD u undef]) w := by
  have hp' : tmps[p]?.getD undef = .pointer (some ⟨g, 0, none⟩) := by simpa using hp
  simp [results, h, hp', asAddr, run_loadVar_row w g t ty cs fr d hg hu hd hi]

/-- a token and whether it is one -/
def RetTok (t : Tok) (w : World) (e : Ending) (w' : World) : Prop := e = .returned (.tuple #[TokV t, .bool true]) ∧ Below w.heap.size w w'

theorem ext_take (l : Str) (n : Nat) : (⟨l.toArray⟩ : ByteArray).extract 0 n = ⟨(l.take n).toArray⟩ := by
  rw [Lib.extract_eq]; simp
theorem ext_drop (l : Str) (n : Nat) : (⟨l.toArray⟩ : ByteArray).extract n l.length = ⟨(l.drop n).toArray⟩ := by
  rw [Lib.extract_eq]
  simp only []
  rw [List.take_of_length_le (by simp)]

theorem signF_cases {l x : Str} (h : signF l = some x) (hl : l ≠ []) : (2 ≤ l.length ∧ l.take 2 ∈ signsL ∧ x = l.take 2) ∨ (2 ≤ l.length ∧ l.take 2 ∉ signsL ∧ l.take 1 ∈ signsL ∧ x = l.take 1) ∨ (l.length = 1 ∧ l.take 1 ∈ signsL ∧ x = l.take 1) := by
  unfold signF at h
  have hp : 0 < l.length := List.length_pos_iff.2 hl
  by_cases h1 : 2 ≤ l.length
  · split at h
    · next h2 => cases h; exact .inl ⟨h1, h2, rfl⟩
    · next h2 =>
      split at h
      · next h3 => cases h; exact .inr (.inl ⟨h1, h2, h3, rfl⟩)
      · cases h
  · have hl1 : l.length = 1 := by omega
    have e2 : l.take 2 = l := List.take_of_length_le (by omega)
    have e1 : l.take 1 = l := List.take_of_length_le (by omega)
    rw [e1, e2] at h
    split at h
    · next h2 => cases h; exact .inr (.inr ⟨hl1, by rw [e1]; exact h2, e1.symm⟩)
    · cases h

set_option maxRecDepth 100000 in
set_option maxHeartbeats 8000000 in
theorem sign_yes (l x : Str) (hl : l ≠ []) (hx : signF l = some x) (w : World) : Calls Tryz.prog 175 #[S l] w (RetTok ⟨4, x, 0, 0⟩ w) := by
  have hc := signF_cases hx hl
  have HC := Lib.hid hc
  have hpos : 0 < l.length := List.length_pos_iff.2 hl
  obtain ⟨n0, hn0⟩ : ∃ n0, n0 = min 2 l.length := ⟨_, rfl⟩
  have hn1 : 1 ≤ n0 := by omega
  have hn2 : n0 ≤ 2 := by omega
  have hst : n0 ≤ l.length ∧ ((l.take n0 ∈ signsL ∧ x = l.take n0) ∨ (n0 = 2 ∧ l.take 2 ∉ signsL ∧ l.take 1 ∈ signsL ∧ x = l.take 1)) := by
    refine ⟨by omega, ?_⟩
    rcases hc with ⟨h1, h2, h3⟩ | ⟨h1, h2, h3, h4⟩ | ⟨h1, h2, h3⟩
    · obtain rfl : n0 = 2 := by omega
      exact .inl ⟨h2, h3⟩
    · obtain rfl : n0 = 2 := by omega
      exact .inr ⟨rfl, h2, h3, h4⟩
    · obtain rfl : n0 = 1 := by omega
      exact .inl ⟨h2, h3⟩
  obtain ⟨hn3, hst⟩ := hst
  have HST := Lib.hid hst
  have HN0 := Lib.hid hn0
  clear hc hn0 hx hl hst
  go_enter Tryz.func175, Tryz.ntmps175
  go_upto_region 1 with (fail)
  go_cut [4] (fun s4 wc => s4 = I n0 ∧ wc = w.alloc (.cells #[I 0, S [], I 0, I 0] 119))
  case first =>
    rcases (by omega : (l.length : Int) < 2 ∨ 2 ≤ (l.length : Int)) with h | h
    all_goals
      go_wp2
      go_meet
      exact ⟨by first | (congr 1; have := HN0.out; omega), rfl⟩
  case rest =>
  obtain ⟨rfl, rfl⟩ := hcut
  go_wp2
  go_loopg [4] n0 (fun gh v wr => ∃ n : Nat, v = I n ∧ gh = n ∧ 1 ≤ n ∧ n ≤ 2 ∧ n ≤ l.length ∧ wr = w.alloc (.cells #[I 0, S [], I 0, I 0] 119) ∧ Hid ((l.take n ∈ signsL ∧ x = l.take n) ∨ (n = 2 ∧ l.take 2 ∉ signsL ∧ l.take 1 ∈ signsL ∧ x = l.take 1)))
  case atStart => exact ⟨n0, rfl, rfl, hn1, hn2, hn3, rfl, HST⟩
  case round =>
    obtain ⟨n, rfl, hg, hn1, hn2, hnl, rfl, HX⟩ := hrel
    have hnz : (0 : Int) < (n : Int) := by omega
    have hnlz : (n : Int) ≤ (l.length : Int) := by omega
    obtain ⟨m, hm⟩ : ∃ m, m = l.take n := ⟨_, rfl⟩
    have hmv : (⟨List.toArray l⟩ : ByteArray).extract 0 n = ⟨m.toArray⟩ := by rw [hm]; exact ext_take l n
    have HM := Lib.hid hm
    by_cases hmem : m ∈ signsL
    · have hxm : x = m := by
        rcases HX.out with ⟨_, h⟩ | ⟨h1, h2, _⟩
        · rw [h, HM.out]
        · subst h1; rw [HM.out] at hmem; exact absurd hmem h2
      have HXM := Lib.hid hxm
      clear hxm hm HX HST HN0
      simp only [signsL, List.mem_cons, List.not_mem_nil, or_false] at hmem
      rcases hmem with rfl | rfl | rfl | rfl | rfl | rfl | rfl | rfl | rfl | rfl | rfl | rfl | rfl | rfl | rfl | rfl | rfl | rfl | rfl | rfl | rfl | rfl | rfl | rfl | rfl | rfl | rfl
      all_goals
        as_aux_lemma =>
        go_wp2
        refine bodyPost_ret (results_ct rfl _ _ w.heap.size 119 _ (0, 0) _ rfl (heap_new _ _) Tryz.underlying119 rfl (by kernel_rfl)) rfl ?_
        exact ⟨by rw [HXM.out]; rfl, below_a1 _ _⟩
    · obtain ⟨hn2', hn3', hn4', hn5'⟩ : n = 2 ∧ l.take 2 ∉ signsL ∧ l.take 1 ∈ signsL ∧ x = l.take 1 := by
        rcases HX.out with ⟨h, _⟩ | h
        · rw [← HM.out] at h; exact absurd h hmem
        · exact h
      have H34 := Lib.hid (And.intro hn4' hn5')
      have h0 : (m == [61, 61]) = false := beq_eq_false_iff_ne.2 (fun e => hmem (by rw [e]; decide))
      have h1 : (m == [33, 61]) = false := beq_eq_false_iff_ne.2 (fun e => hmem (by rw [e]; decide))
      have h2 : (m == [60, 61]) = false := beq_eq_false_iff_ne.2 (fun e => hmem (by rw [e]; decide))
      have h3 : (m == [62, 61]) = false := beq_eq_false_iff_ne.2 (fun e => hmem (by rw [e]; decide))
      have h4 : (m == [60, 60]) = false := beq_eq_false_iff_ne.2 (fun e => hmem (by rw [e]; decide))
      have h5 : (m == [62, 62]) = false := beq_eq_false_iff_ne.2 (fun e => hmem (by rw [e]; decide))
      have h6 : (m == [40]) = false := beq_eq_false_iff_ne.2 (fun e => hmem (by rw [e]; decide))
      have h7 : (m == [41]) = false := beq_eq_false_iff_ne.2 (fun e => hmem (by rw [e]; decide))
      have h8 : (m == [123]) = false := beq_eq_false_iff_ne.2 (fun e => hmem (by rw [e]; decide))
      have h9 : (m == [125]) = false := beq_eq_false_iff_ne.2 (fun e => hmem (by rw [e]; decide))
      have h10 : (m == [91]) = false := beq_eq_false_iff_ne.2 (fun e => hmem (by rw [e]; decide))
      have h11 : (m == [93]) = false := beq_eq_false_iff_ne.2 (fun e => hmem (by rw [e]; decide))
      have h12 : (m == [44]) = false := beq_eq_false_iff_ne.2 (fun e => hmem (by rw [e]; decide))
      have h13 : (m == [59]) = false := beq_eq_false_iff_ne.2 (fun e => hmem (by rw [e]; decide))
      have h14 : (m == [61]) = false := beq_eq_false_iff_ne.2 (fun e => hmem (by rw [e]; decide))
      have h15 : (m == [124]) = false := beq_eq_false_iff_ne.2 (fun e => hmem (by rw [e]; decide))
      have h16 : (m == [94]) = false := beq_eq_false_iff_ne.2 (fun e => hmem (by rw [e]; decide))
      have h17 : (m == [38]) = false := beq_eq_false_iff_ne.2 (fun e => hmem (by rw [e]; decide))
      have h18 : (m == [43]) = false := beq_eq_false_iff_ne.2 (fun e => hmem (by rw [e]; decide))
      have h19 : (m == [45]) = false := beq_eq_false_iff_ne.2 (fun e => hmem (by rw [e]; decide))
      have h20 : (m == [42]) = false := beq_eq_false_iff_ne.2 (fun e => hmem (by rw [e]; decide))
      have h21 : (m == [47]) = false := beq_eq_false_iff_ne.2 (fun e => hmem (by rw [e]; decide))
      have h22 : (m == [37]) = false := beq_eq_false_iff_ne.2 (fun e => hmem (by rw [e]; decide))
      have h23 : (m == [33]) = false := beq_eq_false_iff_ne.2 (fun e => hmem (by rw [e]; decide))
      have h24 : (m == [126]) = false := beq_eq_false_iff_ne.2 (fun e => hmem (by rw [e]; decide))
      have h25 : (m == [60]) = false := beq_eq_false_iff_ne.2 (fun e => hmem (by rw [e]; decide))
      have h26 : (m == [62]) = false := beq_eq_false_iff_ne.2 (fun e => hmem (by rw [e]; decide))
      subst hn2'
      clear hmem hn3' hn4' hn5' hm
      go_wp2
      go_roundg 1
      case measure => omega
      case rel => exact ⟨1, rfl, rfl, by omega, by omega, by omega, rfl, Lib.hid (.inl H34.out)⟩
end Go.Proofs.YtjgbkdbkachciaaGreatDoor

namespace Go.Proofs.YtjgbkdbkachciaaGreatDoor
open Go.RowKit Go.Shelf
attribute [local go_sem] Oper.semAt_some

theorem runL_le (p : Int → Bool) (l : Str) : runL p l ≤ l.length := by
  unfold runL
  exact (List.takeWhile_prefix _).length_le
theorem Asc.take {l : Str} (h : Asc l) (n : Nat) : Asc (l.take n) := fun b hb => h b (List.mem_of_mem_take hb)
theorem Asc.drop {l : Str} (h : Asc l) (n : Nat) : Asc (l.drop n) := fun b hb => h b (List.mem_of_mem_drop hb)

set_option maxRecDepth 100000 in
set_option maxHeartbeats 2000000 in
theorem word_yes (l : Str) (ha : Asc l) (x : Str) (hx : x = l.take (runL wordR l)) (k : Int) (hk : (k = 2 ∧ isWord x = true) ∨ (k = 1 ∧ isWord x = false ∧ isName x = true)) (w : World) :
    Calls Tryz.prog 171 #[S l] w (RetTok ⟨k, x, 0, 0⟩ w) := by
  have hax : Asc x := by rw [hx]; exact ha.take _
  have hnl := runL_le wordR l
  have HA := Lib.hid ha
  have HAX := Lib.hid hax
  have hrun : ∀ W, Calls Tryz.prog 165 #[S l, .func (.func 198) #[] #[]] W fun e w' => e = .returned (I (runL wordR l)) ∧ Below W.heap.size W w' := fun W => run_198 l ha W
  obtain ⟨n, hn⟩ : ∃ n, n = runL wordR l := ⟨_, rfl⟩
  rw [← hn] at hrun hnl hx
  have hmv : (⟨List.toArray l⟩ : ByteArray).extract 0 n = ⟨x.toArray⟩ := by rw [hx]; exact ext_take l n
  have HRUN := Lib.hid hrun
  have hnlz : (n : Int) ≤ (l.length : Int) := by omega
  clear ha hax hrun hn hx
  rcases hk with ⟨rfl, hw⟩ | ⟨rfl, hw, hnm⟩
  · have HW := Lib.hid hw
    clear hw
    go_enter Tryz.func171, Tryz.ntmps171
    go_wp2_with (first
      | (go_at_call 165; refine (HRUN.out _).mono ?_; rintro e w1 ⟨rfl, hb1⟩; have hz1 := hb1.size; rw [World.size_alloc] at hz1; have hk1 := (hb1.block w.heap.size (by simp)).trans (heap_new _ _); have HB1 := Lib.hid ((below_a1 w _).trans (hb1.mono (by simp))); have HK1 := Lib.hid hk1; clear hb1 hk1)
      | (go_at_call 177; refine (word_any x _).mono ?_; rintro e w2 ⟨rfl, rfl⟩; rw [HW.out])
      | (refine wpList_store_row rfl 119 (.tmp 2) (.tmp 12) rfl w.heap.size _ rfl rfl 119 _ HK1.out (by kernel_rfl) (by rfl) (by simp [Value.oneCell']) ?_))
    refine bodyPost_ret (results_ct rfl _ _ w.heap.size 119 _ (0, 0) _ rfl (setRow_heap _ _ _ _ _ _ HK1.out) Tryz.underlying119 rfl (by kernel_rfl)) rfl ?_
    refine ⟨rfl, HB1.out.grown (row := some w.heap.size) ⟨rfl, rfl, rfl, by simp, fun i _ hi => setRow_other _ _ _ _ (fun e => hi (by rw [e]))⟩ HB1.out.size (fun r e => by cases e; exact Nat.le_refl _)⟩
  · have HW := Lib.hid hw
    have HNM := Lib.hid hnm
    clear hw hnm
    go_enter Tryz.func171, Tryz.ntmps171
    go_wp2_with (first
      | (go_at_call 165; refine (HRUN.out _).mono ?_; rintro e w1 ⟨rfl, hb1⟩; have hz1 := hb1.size; rw [World.size_alloc] at hz1; have hk1 := (hb1.block w.heap.size (by simp)).trans (heap_new _ _); have HB1 := Lib.hid ((below_a1 w _).trans (hb1.mono (by simp))); have HK1 := Lib.hid hk1; clear hb1 hk1)
      | (go_at_call 177; refine (word_any x _).mono ?_; rintro e w2 ⟨rfl, rfl⟩; rw [HW.out])
      | (go_at_call 117; refine (name_yes x HAX.out HNM.out _).mono ?_; rintro e w3 ⟨rfl, hb3⟩; have hk3 := (hb3.block w.heap.size (by omega)).trans HK1.out; have HK3 := Lib.hid hk3; have HB3 := Lib.hid (HB1.out.trans (hb3.mono (by omega))); clear hb3 hk3)
      | (refine wpList_store_row rfl 119 (.tmp 2) (.tmp 14) rfl w.heap.size _ rfl rfl 119 _ HK3.out (by kernel_rfl) (by rfl) (by simp [Value.oneCell']) ?_))
    refine bodyPost_ret (results_ct rfl _ _ w.heap.size 119 _ (0, 0) _ rfl (setRow_heap _ _ _ _ _ _ HK3.out) Tryz.underlying119 rfl (by kernel_rfl)) rfl ?_
    refine ⟨rfl, HB3.out.grown (row := some w.heap.size) ⟨rfl, rfl, rfl, by simp, fun i _ hi => setRow_other _ _ _ _ (fun e => hi (by rw [e]))⟩ HB3.out.size (fun r e => by cases e; exact Nat.le_refl _)⟩
end Go.Proofs.YtjgbkdbkachciaaGreatDoor
