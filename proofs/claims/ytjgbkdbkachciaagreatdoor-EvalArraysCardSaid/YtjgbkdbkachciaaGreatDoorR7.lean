import Derived.Test.YtjgbkdbkachciaaGreatDoorR5
import Derived.Test.YtjgbkdbkachciaaGreatDoorH0
import Derived.Lib.SmallJoins
namespace Go.Proofs.YtjgbkdbkachciaaGreatDoor
open Go.RowKit Go.Shelf
attribute [local go_sem] Oper.semAt_some

theorem below_bytes (w : World) (e : TypeId) (t : ByteArray) : Below w.heap.size w (Lib.bytesWorld w e t) := Go.Joins.below_bytesWorld _ w e t (Nat.le_refl _)

set_option maxRecDepth 100000 in
set_option maxHeartbeats 2000000 in
theorem number_yes (l : Str) (ha : Asc l) (x : Str) (hx : x = l.take (runL digitR l)) (k : Nat) (hk : k < 100) (h1 : Lib.atoi x = some (k : Int)) (h2 : Lib.decDigits k = x) (h18 : x.length ≤ 18) (w : World) :
    Calls Tryz.prog 173 #[S l] w (RetTok ⟨3, x, k, 0⟩ w) := by
  have hnl := runL_le digitR l
  have hrun : ∀ W, Calls Tryz.prog 165 #[S l, .func (.func 172) #[] #[]] W fun e w' => e = .returned (I (runL digitR l)) ∧ Below W.heap.size W w' := fun W => run_172 l ha W
  obtain ⟨n, hn⟩ : ∃ n, n = runL digitR l := ⟨_, rfl⟩
  rw [← hn] at hrun hnl hx
  have hmv : (⟨List.toArray l⟩ : ByteArray).extract 0 n = ⟨x.toArray⟩ := by rw [hx]; exact ext_take l n
  have hatoi : ∀ W, Calls Tryz.prog 199 #[S x] W fun e w' => e = .returned (.tuple #[I k, .nilIface]) ∧ Below W.heap.size W w' := fun W =>
    (Tryz.strconv_Atoi ⟨x.toArray⟩ k h18 (by simpa using h1) W).mono fun e w' ⟨he, t, hw⟩ => ⟨he, by rw [hw]; exact below_bytes _ _ _⟩
  have hitoa : ∀ W, Calls Tryz.prog 200 #[I k] W fun e w' => e = .returned (S x) ∧ W = w' := fun W => by
    rw [← h2]
    exact (Tryz.strconv_Itoa_small k hk W).mono fun e w' ⟨he, hw⟩ => ⟨he, hw.symm⟩
  have HRUN := Lib.hid hrun
  have HAT := Lib.hid hatoi
  have HIT := Lib.hid hitoa
  have hnlz : (n : Int) ≤ (l.length : Int) := by omega
  clear ha hrun hn hx hatoi hitoa h1 h2
  go_enter Tryz.func173, Tryz.ntmps173
  go_wp2_with (first
    | (go_at_call 165; refine (HRUN.out _).mono ?_; rintro e w1 ⟨rfl, hb1⟩; have hz1 := hb1.size; rw [World.size_alloc] at hz1; have hk1 := (hb1.block w.heap.size (by simp)).trans (heap_new _ _); have HB1 := Lib.hid ((below_a1 w _).trans (hb1.mono (by simp))); have HK1 := Lib.hid hk1; clear hb1 hk1)
    | (go_at_call 199; refine (HAT.out _).mono ?_; rintro e w3 ⟨rfl, hb3⟩; have hk3 := (hb3.block w.heap.size (by omega)).trans HK1.out; have HK3 := Lib.hid hk3; have HB3 := Lib.hid (HB1.out.trans (hb3.mono (by omega))); clear hb3 hk3)
    | (go_at_call 200; refine (HIT.out _).mono ?_; rintro e w4 ⟨rfl, rfl⟩)
    | (refine wpList_store_row rfl 119 (.tmp 2) (.tmp 18) rfl w.heap.size _ rfl rfl 119 _ HK3.out (by kernel_rfl) (by rfl) (by simp [Value.oneCell']) ?_))
  refine bodyPost_ret (results_ct rfl _ _ w.heap.size 119 _ (0, 0) _ rfl (setRow_heap _ _ _ _ _ _ HK3.out) Tryz.underlying119 rfl (by kernel_rfl)) rfl ?_
  refine ⟨rfl, HB3.out.grown (row := some w.heap.size) ⟨rfl, rfl, rfl, by simp, fun i _ hi => setRow_other _ _ _ _ (fun e => hi (by rw [e]))⟩ HB3.out.size (fun r e => by cases e; exact Nat.le_refl _)⟩

/-- the numbers below a hundred, as they are written -/
def digF (k : Nat) : Str := if k < 10 then [UInt8.ofNat (48 + k)] else [UInt8.ofNat (48 + k / 10), UInt8.ofNat (48 + k % 10)]
def numF (x : Str) : Option Nat := (List.range 100).find? fun k => x == digF k
theorem digF_atoi : ∀ k : Fin 100, Lib.atoi (digF k.val) = some (k.val : Int) := by decide +kernel
theorem digF_len : ∀ k : Fin 100, (digF k.val).length ≤ 18 := by decide +kernel
theorem numF_ok {x : Str} {k : Nat} (h : numF x = some k) : k < 100 ∧ Lib.decDigits k = x ∧ Lib.atoi x = some (k : Int) ∧ x.length ≤ 18 := by
  have h1 := List.find?_some h
  have h2 := List.mem_range.1 (List.mem_of_find?_eq_some h)
  simp only [beq_iff_eq] at h1
  subst h1
  refine ⟨h2, ?_, digF_atoi ⟨k, h2⟩, digF_len ⟨k, h2⟩⟩
  unfold digF
  split
  · next h3 => exact Lib.decDigits_one h3
  · next h3 => exact Lib.decDigits_two h3 h2

/-- the token at the beginning of a text; 'none': something that this says nothing of -/
def tokF (l : Str) : Option Tok := match l with
  | [] => none
  | c :: _ =>
    if isLetter c then
      let x := l.take (runL wordR l)
      if isWord x then some ⟨2, x, 0, 0⟩ else if isName x then some ⟨1, x, 0, 0⟩ else none
    else if isDigit c then
      let x := l.take (runL digitR l)
      match numF x with
      | some k => some ⟨3, x, k, 0⟩
      | none => none
    else if c = 39 then none
    else (signF l).map fun x => ⟨4, x, 0, 0⟩

set_option maxRecDepth 100000 in
set_option maxHeartbeats 2000000 in
theorem token_yes (l : Str) (ha : Asc l) (t : Tok) (ht : tokF l = some t) (w : World) : Calls Tryz.prog 111 #[S l] w (RetTok t w) := by
  cases l with
  | nil => cases ht
  | cons c r =>
    obtain ⟨l, hl⟩ : ∃ l, l = c :: r := ⟨_, rfl⟩
    rw [← hl] at ha ht ⊢
    have hne : l ≠ [] := by rw [hl]; simp
    have hc : c.toNat < 128 := ha c (by rw [hl]; simp)
    have hcz : (c.toNat : Int) < 128 := by omega
    have hlen : 0 < l.length := by rw [hl]; simp
    have h0 : ((⟨l.toArray⟩ : ByteArray)[0]'hlen) = c := by subst hl; rfl
    have htok : (letterR c.toNat = true ∧ Calls Tryz.prog 171 #[S l] (w.alloc (.cells #[I 0, S [], I 0, I 0] 119)) (RetTok t (w.alloc (.cells #[I 0, S [], I 0, I 0] 119)))) ∨
      (letterR c.toNat = false ∧ digitR c.toNat = true ∧ Calls Tryz.prog 173 #[S l] (w.alloc (.cells #[I 0, S [], I 0, I 0] 119)) (RetTok t (w.alloc (.cells #[I 0, S [], I 0, I 0] 119)))) ∨
      (letterR c.toNat = false ∧ digitR c.toNat = false ∧ c.toNat ≠ 39 ∧ Calls Tryz.prog 175 #[S l] (w.alloc (.cells #[I 0, S [], I 0, I 0] 119)) (RetTok t (w.alloc (.cells #[I 0, S [], I 0, I 0] 119)))) := by
      unfold tokF at ht
      rw [hl] at ht
      simp only [← hl] at ht
      rw [isLetter_eq, isDigit_eq] at ht
      cases hlt : letterR c.toNat
      · rw [hlt] at ht
        simp only [Bool.false_eq_true, if_false] at ht
        cases hd : digitR c.toNat
        · rw [hd] at ht
          simp only [Bool.false_eq_true, if_false] at ht
          split at ht
          · cases ht
          · next h39 =>
            obtain ⟨x, hx, rfl⟩ := Option.map_eq_some_iff.1 ht
            exact .inr (.inr ⟨rfl, rfl, fun e => h39 (by rw [← UInt8.toNat_inj]; exact e), sign_yes l x hne hx _⟩)
        · rw [hd] at ht
          simp only [if_true] at ht
          split at ht
          · next k hk =>
            cases ht
            obtain ⟨n1, n2, n3, n4⟩ := numF_ok hk
            exact .inr (.inl ⟨rfl, rfl, number_yes l ha _ rfl k n1 n3 n2 n4 _⟩)
          · cases ht
      · rw [hlt] at ht
        simp only [if_true] at ht
        split at ht
        · next h => cases ht; exact .inl ⟨rfl, word_yes l ha _ rfl 2 (.inl ⟨rfl, h⟩) _⟩
        · next h =>
          split at ht
          · next h2 => cases ht; exact .inl ⟨rfl, word_yes l ha _ rfl 1 (.inr ⟨rfl, by simpa using h, h2⟩) _⟩
          · cases ht
    have hlet : ∀ W, Calls Tryz.prog 170 #[R32 c.toNat] W fun e w' => e = .returned (.bool (letterR c.toNat)) ∧ W = w' := fun W => letter_any _ W (by omega) hcz
    have hdig : ∀ W, Calls Tryz.prog 172 #[R32 c.toNat] W fun e w' => e = .returned (.bool (digitR c.toNat)) ∧ W = w' := fun W => digit_any _ W (by omega) hcz
    have HLET := Lib.hid hlet
    have HDIG := Lib.hid hdig
    have HT := Lib.hid ht
    have hlz : (0 : Int) < (l.length : Int) := by omega
    clear hlet hdig ht ha hl hne
    go_enter Tryz.func111, Tryz.ntmps111
    rcases htok with ⟨h1, hcall⟩ | ⟨h1, h2, hcall⟩ | ⟨h1, h2, h39, hcall⟩
    · have H1 := Lib.hid h1
      have HC := Lib.hid hcall
      clear h1 hcall
      go_wp2_with (first
        | (go_at_call 170; refine (HLET.out _).mono ?_; rintro e w1 ⟨rfl, rfl⟩; rw [H1.out])
        | (go_at_call 171; refine HC.out.mono ?_; rintro e w2 ⟨rfl, hb2⟩; rw [World.size_alloc] at hb2; have hk2 := (hb2.block w.heap.size (by omega)).trans (heap_new _ _); have HK2 := Lib.hid hk2; have HB2 := Lib.hid ((below_a1 w _).trans (hb2.mono (by omega))); clear hb2 hk2)
        | (refine wpList_store_row rfl 119 (.tmp 2) (.tmp 13) rfl w.heap.size _ rfl rfl 119 _ HK2.out (by kernel_rfl) (by rfl) (by simp [Value.oneCell']) ?_))
      refine bodyPost_ret (results_ct rfl _ _ w.heap.size 119 _ (0, 0) _ rfl (setRow_heap _ _ _ _ _ _ HK2.out) Tryz.underlying119 rfl (by kernel_rfl)) rfl ?_
      exact ⟨rfl, HB2.out.grown (row := some w.heap.size) ⟨rfl, rfl, rfl, by simp, fun i _ hi => setRow_other _ _ _ _ (fun e => hi (by rw [e]))⟩ HB2.out.size (fun r e => by cases e; exact Nat.le_refl _)⟩
    · have H1 := Lib.hid h1
      have H2 := Lib.hid h2
      have HC := Lib.hid hcall
      clear h1 h2 hcall
      go_wp2_with (first
        | (go_at_call 170; refine (HLET.out _).mono ?_; rintro e w1 ⟨rfl, rfl⟩; rw [H1.out])
        | (go_at_call 172; refine (HDIG.out _).mono ?_; rintro e w1 ⟨rfl, rfl⟩; rw [H2.out])
        | (go_at_call 173; refine HC.out.mono ?_; rintro e w2 ⟨rfl, hb2⟩; rw [World.size_alloc] at hb2; have hk2 := (hb2.block w.heap.size (by omega)).trans (heap_new _ _); have HK2 := Lib.hid hk2; have HB2 := Lib.hid ((below_a1 w _).trans (hb2.mono (by omega))); clear hb2 hk2)
        | (refine wpList_store_row rfl 119 (.tmp 2) (.tmp 20) rfl w.heap.size _ rfl rfl 119 _ HK2.out (by kernel_rfl) (by rfl) (by simp [Value.oneCell']) ?_))
      refine bodyPost_ret (results_ct rfl _ _ w.heap.size 119 _ (0, 0) _ rfl (setRow_heap _ _ _ _ _ _ HK2.out) Tryz.underlying119 rfl (by kernel_rfl)) rfl ?_
      exact ⟨rfl, HB2.out.grown (row := some w.heap.size) ⟨rfl, rfl, rfl, by simp, fun i _ hi => setRow_other _ _ _ _ (fun e => hi (by rw [e]))⟩ HB2.out.size (fun r e => by cases e; exact Nat.le_refl _)⟩
    · have H1 := Lib.hid h1
      have H2 := Lib.hid h2
      have HC := Lib.hid hcall
      have h39z : ((c.toNat : Int) == 39) = false := beq_eq_false_iff_ne.2 (by omega)
      clear h1 h2 hcall h39
      go_wp2_with (first
        | (go_at_call 170; refine (HLET.out _).mono ?_; rintro e w1 ⟨rfl, rfl⟩; rw [H1.out])
        | (go_at_call 172; refine (HDIG.out _).mono ?_; rintro e w1 ⟨rfl, rfl⟩; rw [H2.out])
        | (go_at_call 175; refine HC.out.mono ?_; rintro e w2 ⟨rfl, hb2⟩; rw [World.size_alloc] at hb2; have hk2 := (hb2.block w.heap.size (by omega)).trans (heap_new _ _); have HK2 := Lib.hid hk2; have HB2 := Lib.hid ((below_a1 w _).trans (hb2.mono (by omega))); clear hb2 hk2)
        | (refine wpList_store_row rfl 119 (.tmp 2) (.tmp 31) rfl w.heap.size _ rfl rfl 119 _ HK2.out (by kernel_rfl) (by rfl) (by simp [Value.oneCell']) ?_))
      refine bodyPost_ret (results_ct rfl _ _ w.heap.size 119 _ (0, 0) _ rfl (setRow_heap _ _ _ _ _ _ HK2.out) Tryz.underlying119 rfl (by kernel_rfl)) rfl ?_
      exact ⟨rfl, HB2.out.grown (row := some w.heap.size) ⟨rfl, rfl, rfl, by simp, fun i _ hi => setRow_other _ _ _ _ (fun e => hi (by rw [e]))⟩ HB2.out.size (fun r e => by cases e; exact Nat.le_refl _)⟩
end Go.Proofs.YtjgbkdbkachciaaGreatDoor

namespace Go.Proofs.YtjgbkdbkachciaaGreatDoor
open Go.RowKit Go.Shelf
attribute [local go_sem] Oper.semAt_some

set_option maxRecDepth 100000 in
set_option maxHeartbeats 2000000 in
theorem skip_yes (l : Str) (ha : Asc l) (hp : Lib.hasPrefix (l.drop (runL blankR l)) [47, 47] = false) (hl : l.length ≤ 1000000) (w : World) :
    Calls Tryz.prog 110 #[S l] w fun e w' => e = .returned (.tuple #[S (l.drop (runL blankR l)), I (Lib.countByte (l.take (runL blankR l)) 10), .bool true]) ∧ Below w.heap.size w w' := by
  have hnl := runL_le blankR l
  have hrun : ∀ W, Calls Tryz.prog 165 #[S l, .func (.func 166) #[] #[]] W fun e w' => e = .returned (I (runL blankR l)) ∧ Below W.heap.size W w' := fun W => run_166 l ha W
  obtain ⟨n, hn⟩ : ∃ n, n = runL blankR l := ⟨_, rfl⟩
  rw [← hn] at hrun hnl hp ⊢
  obtain ⟨x, hx⟩ : ∃ x, x = l.take n := ⟨_, rfl⟩
  obtain ⟨r, hr⟩ : ∃ r, r = l.drop n := ⟨_, rfl⟩
  rw [← hx, ← hr]
  rw [← hr] at hp
  have hmx : (⟨List.toArray l⟩ : ByteArray).extract 0 n = ⟨x.toArray⟩ := by rw [hx]; exact ext_take l n
  have hmr : (⟨List.toArray l⟩ : ByteArray).extract n l.length = ⟨r.toArray⟩ := by rw [hr]; exact ext_drop l n
  have hcb : (Lib.countByte x 10 : Int) ≤ 1000000 := by
    have h1 := List.count_le_length (a := (10 : UInt8)) (l := x)
    have h2 : x.length ≤ l.length := by rw [hx, List.length_take]; omega
    unfold Lib.countByte
    omega
  obtain ⟨c, hc⟩ : ∃ c : Nat, c = Lib.countByte x 10 := ⟨_, rfl⟩
  rw [← hc] at hcb ⊢
  have hcnt : ∀ W, Calls Tryz.prog 167 #[S x, .string ⟨#[10]⟩] W fun e w' => e = .returned (I c) ∧ W = w' := fun W => by
    rw [hc]
    exact (Tryz.strings_Count_one ⟨x.toArray⟩ 10 W).mono fun e w' ⟨he, hw⟩ => ⟨by rw [he], hw.symm⟩
  have hpre : ∀ W, Calls Tryz.prog 168 #[S r, .string ⟨#[47, 47]⟩] W fun e w' => e = .returned (.bool false) ∧ W = w' := fun W =>
    (Tryz.strings_HasPrefix ⟨r.toArray⟩ ⟨#[47, 47]⟩ W).mono fun e w' ⟨he, hw⟩ => ⟨by rw [he]; simp only []; rw [hp], hw.symm⟩
  have HRUN := Lib.hid hrun
  have HCNT := Lib.hid hcnt
  have HPRE := Lib.hid hpre
  have hnlz : (n : Int) ≤ (l.length : Int) := by omega
  clear ha hp hrun hn hx hr hcnt hpre hc
  go_enter Tryz.func110, Tryz.ntmps110
  go_wp2
  go_loopg [0, 3] 0 (fun gh v0 v3 wr => v0 = S l ∧ v3 = I 0 ∧ wr = w)
  case atStart => exact ⟨rfl, rfl, rfl⟩
  case round =>
    obtain ⟨rfl, rfl, rfl⟩ := hrel
    go_wp2_with (first
      | (go_at_call 165; refine (HRUN.out _).mono ?_; rintro e w1 ⟨rfl, hb1⟩; have HB1 := Lib.hid hb1; clear hb1)
      | (go_at_call 167; refine (HCNT.out _).mono ?_; rintro e w3 ⟨rfl, rfl⟩)
      | (go_at_call 168; refine (HPRE.out _).mono ?_; rintro e w4 ⟨rfl, rfl⟩))
    go_ret3
    exact ⟨rfl, HB1.out⟩

/-- the tokens of a text; 'none': something that this says nothing of -/
def scanF : Nat → Int → Str → Option (List Tok)
  | 0, _, _ => none
  | k + 1, line, l =>
    if Lib.hasPrefix (l.drop (runL blankR l)) [47, 47] then none
    else if l.drop (runL blankR l) = [] then some [⟨5, [], 0, line + Lib.countByte (l.take (runL blankR l)) 10⟩]
    else match tokF (l.drop (runL blankR l)) with
      | none => none
      | some t => (scanF k (line + Lib.countByte (l.take (runL blankR l)) 10) ((l.drop (runL blankR l)).drop t.text.length)).map fun ts => ⟨t.kind, t.text, t.n, line + Lib.countByte (l.take (runL blankR l)) 10⟩ :: ts
def tEnc (t : Tok) : List Value := [I t.kind, S t.text, I t.n, I t.line]
theorem tEnc_len (t : Tok) : (tEnc t).length = 4 := rfl
theorem tEnc_one (t : Tok) : ∀ u ∈ tEnc t, u.oneCell' = true := by intro u hu; simp [tEnc] at hu; rcases hu with rfl | rfl | rfl | rfl <;> rfl
theorem slTok : SlT 110 119 4 40 := SlT.mk' (z := .agg #[.int .i64 0, .string ByteArray.empty, .int .i64 0, .int .i64 0]) Tryz.underlying110 (by kernel_rfl) rfl (by decide)

theorem runL_pos {p : Int → Bool} {c : UInt8} {r : Str} (h : p c.toNat = true) : 1 ≤ runL p (c :: r) := by
  unfold runL; rw [List.takeWhile_cons, h]; simp
theorem tokF_text {l : Str} {t : Tok} (h : tokF l = some t) : 1 ≤ t.text.length ∧ t.text.length ≤ l.length := by
  cases l with
  | nil => cases h
  | cons c r =>
    unfold tokF at h
    simp only [] at h
    have htk : ∀ (p : Int → Bool), p c.toNat = true → 1 ≤ ((c :: r).take (runL p (c :: r))).length ∧ ((c :: r).take (runL p (c :: r))).length ≤ (c :: r).length := fun p hp => by
      have h1 := runL_pos (p := p) (c := c) (r := r) hp
      have h2 := runL_le p (c :: r)
      rw [List.length_take]
      omega
    split at h
    · next hl =>
      have hw : wordR c.toNat = true := by unfold wordR; rw [← isLetter_eq, hl]; rfl
      split at h
      · cases h; exact htk _ hw
      · split at h
        · cases h; exact htk _ hw
        · cases h
    · split at h
      · next hd =>
        have hw : digitR c.toNat = true := by rw [← isDigit_eq, hd]
        split at h
        · cases h; exact htk _ hw
        · cases h
      · split at h
        · cases h
        · obtain ⟨x, hx, rfl⟩ := Option.map_eq_some_iff.1 h
          rcases signF_cases hx (by simp) with ⟨h1, _, h2⟩ | ⟨h1, _, _, h2⟩ | ⟨h1, _, h2⟩
          all_goals
            simp only []
            rw [h2, List.length_take]
            omega

set_option maxRecDepth 100000 in
set_option maxHeartbeats 4000000 in
theorem scan_yes (l0 : Str) (ha : Asc l0) (hl : l0.length ≤ 20000) (fuel : Nat) (toks : List Tok) (ht : scanF fuel 1 l0 = some toks) (w : World) :
    Calls Tryz.prog 68 #[S l0] w fun e w' => ∃ v, e = .returned (.tuple #[v, I 0, I 0]) ∧ OwnS 4 119 tEnc w' w.heap.size v toks ∧ Below w.heap.size w w' := by
  have HT := Lib.hid ht
  have HA := Lib.hid ha
  have h20 : ¬ (l0.length : Int) > 20000 := by omega
  clear ht ha
  go_enter Tryz.func68, Tryz.ntmps68
  go_wp2
  go_loopg [0, 2, 5] fuel (fun gh v0 v2 v5 wr => ∃ (l : Str) (line : Int) (done rest : List Tok), v0 = S l ∧ v5 = I line ∧ Below w.heap.size w wr ∧ OwnS 4 119 tEnc wr w.heap.size v2 done ∧ Hid (Asc l ∧ l.length ≤ 20000 ∧ 0 ≤ line ∧ line + l.length ≤ 20001 ∧ done.length + l.length ≤ 20000 ∧ scanF gh line l = some rest ∧ toks = done ++ rest))
  case atStart =>
    refine ⟨l0, 1, [], toks, rfl, rfl, Below.refl _ _, OwnS.nil, Lib.hid ⟨HA.out, hl, by omega, by omega, by simp; omega, HT.out, rfl⟩⟩
  case round =>
    obtain ⟨l, line, done, rest, rfl, rfl, hb, hown, HX⟩ := hrel
    obtain ⟨wo, rfl⟩ : ∃ wo, wo = wr := ⟨_, rfl⟩
    obtain ⟨hal, hll, hl0, hl1, hdl, hsc, hto⟩ := HX.out
    obtain ⟨g1, rfl⟩ : ∃ g1, gk = g1 + 1 := by
      cases gk with
      | zero => cases hsc
      | succ k => exact ⟨k, rfl⟩
    have hnl := runL_le blankR l
    have hcr : Lib.countByte (l.take (runL blankR l)) 10 + (l.drop (runL blankR l)).length ≤ l.length := by
      have h1 := List.count_le_length (a := (10 : UInt8)) (l := l.take (runL blankR l))
      rw [List.length_take] at h1
      rw [List.length_drop]
      unfold Lib.countByte
      omega
    have har := hal.drop (runL blankR l)
    have hskip := fun (hp : Lib.hasPrefix (l.drop (runL blankR l)) [47, 47] = false) (W : World) => skip_yes l hal hp (by omega) W
    unfold scanF at hsc
    obtain ⟨r, hr⟩ : ∃ r, r = l.drop (runL blankR l) := ⟨_, rfl⟩
    obtain ⟨c, hc⟩ : ∃ c : Nat, c = Lib.countByte (l.take (runL blankR l)) 10 := ⟨_, rfl⟩
    rw [← hr, ← hc] at hsc hskip hcr
    rw [← hr] at har
    clear hr hc
    cases hp : Lib.hasPrefix r [47, 47]
    case true => rw [hp] at hsc; simp at hsc
    rw [hp] at hsc
    simp only [Bool.false_eq_true, if_false] at hsc
    replace hskip := hskip hp
    have HS := Lib.hid hskip
    have HB := Lib.hid hb
    have HO := Lib.hid hown
    have hzo := hb.size
    obtain ⟨ln, hln⟩ : ∃ ln : Int, ln = line + (c : Int) := ⟨_, rfl⟩
    rw [← hln] at hsc
    have hwl : line + (c : Int) = ln := hln.symm
    have hlnb : 0 ≤ ln ∧ ln + r.length ≤ 20001 := by omega
    obtain ⟨hln0, hln1⟩ := hlnb
    have hdl2 : done.length + r.length ≤ 20000 := by omega
    have HTO := Lib.hid hto
    clear hskip hp hb hown HX hal hll hto hnl
    by_cases hre : r = []
    · subst hre
      simp only [if_true, Option.some.injEq] at hsc
      have HSC := Lib.hid hsc
      have hdn : done.length ≤ 1000000000 := by simp at hdl2; omega
      clear hsc hln
      go_wp2_with (first
        | (go_at_call 110; refine (HS.out _).mono ?_; rintro e w1 ⟨rfl, hb1⟩; have HB1 := Lib.hid (HB.out.trans (hb1.mono hzo)); have HO1 := Lib.hid (HO.out.tag (below_grown hb1 none) (NoTag.none _ _)); have hz1 := hb1.size; clear hb1)
        | (at_builtin; refine wpList_appS slTok rfl (.tmp 28) (.tmp 31) rfl tEnc_len tEnc_one w.heap.size _ done rfl (HO1.out.tag (alloc_grown _ _ none) (NoTag.none _ _)) w1.heap.size ⟨5, [], 0, ln⟩ rfl (fun j hj => (cell_of_block (heap_new _ _) j).trans (by simp [tEnc])) hdn (by omega) (by simp; omega) ?_; intro g2 cap2 w2 ho2 hg2 hat2 hlt2; have HO2 := Lib.hid ho2; have HB2 := Lib.hid ((HB1.out.alloc (by omega) _).grown hg2 (by simp; omega) (fun r e => (ownsRow_base HO1.out r e).1)); clear ho2 hg2 hat2))
      go_ret3
      exact ⟨_, rfl, by rw [HTO.out, ← HSC.out]; exact HO2.out, HB2.out⟩
    · rw [if_neg hre] at hsc
      cases htk : tokF r with
      | none => rw [htk] at hsc; cases hsc
      | some t =>
        rw [htk] at hsc
        simp only [] at hsc
        obtain ⟨ts, hts, hre2⟩ := Option.map_eq_some_iff.1 hsc
        have htok : ∀ W, Calls Tryz.prog 111 #[S r] W (RetTok t W) := fun W => token_yes r har t htk W
        have HTK := Lib.hid htok
        obtain ⟨htl1, htl2⟩ := tokF_text htk
        obtain ⟨tl, htl⟩ : ∃ tl, tl = t.text.length := ⟨_, rfl⟩
        rw [← htl] at htl1 htl2
        have hmd : (⟨List.toArray r⟩ : ByteArray).extract tl r.length = ⟨(r.drop tl).toArray⟩ := ext_drop r tl
        have htl3 : List.length t.text = tl := htl.symm
        have htlz : (tl : Int) ≤ (r.length : Int) := by omega
        rw [← htl] at hts
        have hrnil : (r == []) = false := beq_eq_false_iff_ne.2 hre
        have HTS := Lib.hid hts
        have HRE := Lib.hid hre2
        have HAR := Lib.hid har
        clear hsc htok hre htk hts hre2 har hln htl
        go_upto_region 9 with (first
          | (go_at_call 110; refine (HS.out _).mono ?_; rintro e w1 ⟨rfl, hb1⟩; have HB1 := Lib.hid (HB.out.trans (hb1.mono hzo)); have HO1 := Lib.hid (HO.out.tag (below_grown hb1 none) (NoTag.none _ _)); have hz1 := hb1.size; clear hb1))
        obtain ⟨b, hbd⟩ : ∃ b, b = w1.heap.size := ⟨_, rfl⟩
        obtain ⟨w5, hw5⟩ : ∃ w5, w5 = w1.alloc (.cells #[.int .i64 0, .string ⟨#[]⟩, .int .i64 0, .int .i64 0] 119) := ⟨_, rfl⟩
        have hb5 : Below w1.heap.size w1 w5 := by rw [hw5]; exact below_a1 _ _
        have hk5 : w5.heap[b]? = some (.cells #[.int .i64 0, .string ⟨#[]⟩, .int .i64 0, .int .i64 0] 119 (0, 0)) := by rw [hw5, hbd]; exact heap_new _ _
        have hz5 : b < w5.heap.size := by rw [hw5, hbd]; simp
        rw [← hw5, ← hbd]
        have hbw : w.heap.size ≤ b := by have := HB1.out.size; omega
        have HB5 := Lib.hid (HB1.out.trans (hb5.mono HB1.out.size))
        have HO5 := Lib.hid (HO1.out.tag (below_grown hb5 none) (NoTag.none _ _))
        have hob : ∀ k, u2.ownBlock = some k → k < b := fun k e => by rw [hbd]; exact (ownsRow_base HO1.out k e).2
        have HOB := Lib.hid hob
        have HK5 := Lib.hid hk5
        clear hw5 hb5 hk5 hbd hob
        go_upto_region 13 with (first
          | (go_at_call 111; refine (HTK.out _).mono ?_; rintro e w6 ⟨rfl, hb6⟩; have HB6 := Lib.hid (HB5.out.trans (hb6.mono (by omega))); have HO6 := Lib.hid (HO5.out.tag (below_grown hb6 none) (NoTag.none _ _)); have hk6 := (hb6.block b hz5).trans HK5.out; have hz6 := hb6.size; have HK6 := Lib.hid hk6; clear hb6 hk6)
          | (refine wpList_store_row rfl 119 (.tmp 9) (.tmp 37) rfl b _ rfl rfl 119 _ HK6.out (by kernel_rfl) (by rfl) (by simp [Value.oneCell']) ?_))
        obtain ⟨w7, hw7⟩ : ∃ w7, w7 = w6.setRow b #[I t.kind, S t.text, I t.n, I t.line] := ⟨_, rfl⟩
        have hg7 : w6.grownBy w7 (some b) := by rw [hw7]; exact ⟨rfl, rfl, rfl, by simp, fun i _ hi => setRow_other _ _ _ _ (fun e => hi (by rw [e]))⟩
        have hk7 : Row w7 b 119 [I t.kind, S t.text, I t.n, I t.line] := by rw [hw7]; exact setRow_heap _ _ _ _ _ _ HK6.out
        rw [← hw7]
        have HB7 := Lib.hid (HB6.out.grown hg7 HB6.out.size (fun r e => by cases e; exact hbw))
        have ho7 : OwnS 4 119 tEnc w7 w.heap.size u2 done := by
          refine ownsRow_kept' HO6.out hg7 ?_
          cases hv : u2.ownBlock with
          | none => exact .inl rfl
          | some k => exact .inr (fun e => by cases e; have := HOB.out b hv; omega)
        have HO7 := Lib.hid ho7
        have HK7 := Lib.hid hk7
        have hc3 := hk7.cell 3
        have hf3 := hk7.frozen 3
        simp only [List.getElem?_cons_succ, List.getElem?_cons_zero] at hc3
        have hz7 : b < w7.heap.size := hk7.lt
        clear hw7 hg7 hk7 ho7
        go_upto_region 14 with (fail)
        obtain ⟨w8, hw8⟩ : ∃ w8, w8 = w7.setCell ⟨b, 3, none⟩ (I ln) := ⟨_, rfl⟩
        have hg8 : w7.grownBy w8 (some b) := by rw [hw8]; exact setCell_grown _ _ _ _
        have hk8 : Row w8 b 119 [I t.kind, S t.text, I t.n, I ln] := by rw [hw8]; exact HK7.out.set 3 (I ln)
        rw [← hw8]
        have HB8 := Lib.hid (HB7.out.grown hg8 HB7.out.size (fun r e => by cases e; exact hbw))
        have ho8 : OwnS 4 119 tEnc w8 w.heap.size u2 done := by
          refine ownsRow_kept' HO7.out hg8 ?_
          cases hv : u2.ownBlock with
          | none => exact .inl rfl
          | some k => exact .inr (fun e => by cases e; have := HOB.out b hv; omega)
        have HO8 := Lib.hid ho8
        have HK8 := Lib.hid hk8
        have e0 := hk8.cell 0
        have e1 := hk8.cell 1
        have e2 := hk8.cell 2
        have e3 := hk8.cell 3
        simp only [List.getElem?_cons_succ, List.getElem?_cons_zero] at e0 e1 e2 e3
        have hz8 : b < w8.heap.size := hk8.lt
        have hdn : done.length ≤ 1000000000 := by omega
        have hB8 := HB8.out.size
        clear hw8 hg8 hk8 ho8 hc3 hf3
        go_wp2_with (first
          | (at_builtin; refine wpList_appS slTok rfl (.tmp 44) (.tmp 46) rfl tEnc_len tEnc_one w.heap.size _ done rfl (HO8.out.tag (alloc_grown _ _ none) (NoTag.none _ _)) w8.heap.size ⟨t.kind, t.text, t.n, ln⟩ rfl (fun j hj => (cell_of_block (heap_new _ _) j).trans (by simp [tEnc])) hdn (by omega) (by simp; omega) ?_; intro g2 cap2 w9 ho9 hg9 hat9 hlt9; have HO9 := Lib.hid ho9; have HB9 := Lib.hid ((HB8.out.alloc hB8 _).grown hg9 (by simp; omega) (fun r e => (ownsRow_base HO8.out r e).1)); have hk9 : Row w9 b 119 [I t.kind, S t.text, I t.n, I ln] := Row.kept (w := w8.alloc (.cells #[I t.kind, S t.text, I t.n, I ln] 119)) (heap_old _ _ HK8.out) hg9 (fun e => by have := HOB.out b e.symm; omega); have c1 := hk9.cell 1; simp only [List.getElem?_cons_succ, List.getElem?_cons_zero] at c1; clear ho9 hg9 hat9 hk9 e0 e1 e2 e3))
        go_roundg g1
        case measure => omega
        case rel =>
          refine ⟨r.drop tl, ln, done ++ [⟨t.kind, t.text, t.n, ln⟩], ts, rfl, rfl, HB9.out, HO9.out, Lib.hid ⟨HAR.out.drop tl, ?_, hln0, ?_, ?_, HTS.out, ?_⟩⟩
          · rw [List.length_drop]; omega
          · rw [List.length_drop]; omega
          · rw [List.length_drop, List.length_append]; simp; omega
          · rw [HTO.out, ← HRE.out]; simp
end Go.Proofs.YtjgbkdbkachciaaGreatDoor
