import Derived.Test.YtjgbkdbkachciaaGreatDoorR5
import Derived.Test.YtjgbkdbkachciaaGreatDoorH0
import Derived.Lib.SmallJoins
namespace Go.Proofs.YtjgbkdbkachciaaGreatDoor
open Go.RowKit Go.Shelf
attribute [local go_sem] Oper.semAt_some

theorem below_bytes (w : World) (e : TypeId) (t : ByteArray) : Below w.heap.size w (Lib.bytesWorld w e t) := Go.Joins.below_bytesWorld _ w e t (Nat.le_refl _)

set_option maxRecDepth 100000 in
set_option maxHeartbeats 2000000 in
theorem number_yes (l : Str) (ha : Asc l) (x : Str) (hx : x = l.take (runL digitR l)) (k : Nat) (hk : k < 100) (h1 : Lib.atoi x = some (k : Int)) (h2 : Lib.decDigits k = x) (h18 : x.length ≤ 18) (w : World) :
    Calls Tryz.prog 173 #[S l] w (RetTok ⟨3, x, k, 0⟩ w) := by
  have hnl := runL_le digitR l
  have hrun : ∀ W, Calls Tryz.prog 165 #[S l, .func (.func 172) #[] #[]] W fun e w' => e = .returned (I (runL digitR l)) ∧ Below W.heap.size W w' := fun W => run_172 l ha W
  obtain ⟨n, hn⟩ : ∃ n, n = runL digitR l := ⟨_, rfl⟩
  rw [← hn] at hrun hnl hx
  have hmv : (⟨List.toArray l⟩ : ByteArray).extract 0 n = ⟨x.toArray⟩ := by rw [hx]; exact ext_take l n
  have hatoi : ∀ W, Calls Tryz.prog 199 #[S x] W fun e w' => e = .returned (.tuple #[I k, .nilIface]) ∧ Below W.heap.size W w' := fun W =>
    (Tryz.strconv_Atoi ⟨x.toArray⟩ k h18 (by simpa using h1) W).mono fun e w' ⟨he, t, hw⟩ => ⟨he, by rw [hw]; exact below_bytes _ _ _⟩
  have hitoa : ∀ W, Calls Tryz.prog 200 #[I k] W fun e w' => e = .returned (S x) ∧ W = w' := fun W => by
    rw [← h2]
    exact (Tryz.strconv_Itoa_small k hk W).mono fun e w' ⟨he, hw⟩ => ⟨he, hw.symm⟩
  have HRUN := Lib.hid hrun
  have HAT := Lib.hid hatoi
  have HIT := Lib.hid hitoa
  have hnlz : (n : Int) ≤ (l.length : Int) := by omega
  clear ha hrun hn hx hatoi hitoa h1 h2
  go_enter Tryz.func173, Tryz.ntmps173
  go_wp2_with (first
    | (go_at_call 165; refine (HRUN.out _).mono ?_; rintro e w1 ⟨rfl, hb1⟩; have hz1 := hb1.size; rw [World.size_alloc] at hz1; have hk1 := (hb1.block w.heap.size (by simp)).trans (heap_new _ _); have HB1 := Lib.hid ((below_a1 w _).trans (hb1.mono (by simp))); have HK1 := Lib.hid hk1; clear hb1 hk1)
    | (go_at_call 199; refine (HAT.out _).mono ?_; rintro e w3 ⟨rfl, hb3⟩; have hk3 := (hb3.block w.heap.size (by omega)).trans HK1.out; have HK3 := Lib.hid hk3; have HB3 := Lib.hid (HB1.out.trans (hb3.mono (by omega))); clear hb3 hk3)
    | (go_at_call 200; refine (HIT.out _).mono ?_; rintro e w4 ⟨rfl, rfl⟩)
    | (refine wpList_store_row rfl 119 (.tmp 2) (.tmp 18) rfl w.heap.size _ rfl rfl 119 _ HK3.out (by kernel_rfl) (by rfl) (by simp [Value.oneCell']) ?_))
  refine bodyPost_ret (results_ct rfl _ _ w.heap.size 119 _ (0, 0) _ rfl (setRow_heap _ _ _ _ _ _ HK3.out) Tryz.underlying119 rfl (by kernel_rfl)) rfl ?_
  refine ⟨rfl, HB3.out.grown (row := some w.heap.size) ⟨rfl, rfl, rfl, by simp, fun i _ hi => setRow_other _ _ _ _ (fun e => hi (by rw [e]))⟩ HB3.out.size (fun r e => by cases e; exact Nat.le_refl _)⟩

/-- the numbers below a hundred, as they are written -/
def digF (k : Nat) : Str := if k < 10 then [UInt8.ofNat (48 + k)] else [UInt8.ofNat (48 + k / 10), UInt8.ofNat (48 + k % 10)]
def numF (x : Str) : Option Nat := (List.range 100).find? fun k => x == digF k
theorem digF_atoi : ∀ k : Fin 100, Lib.atoi (digF k.val) = some (k.val : Int) := by decide +kernel
theorem digF_len : ∀ k : Fin 100, (digF k.val).length ≤ 18 := by decide +kernel
theorem numF_ok {x : Str} {k : Nat} (h : numF x = some k) : k < 100 ∧ Lib.decDigits k = x ∧ Lib.atoi x = some (k : Int) ∧ x.length ≤ 18 := by
  have h1 := List.find?_some h
  have h2 := List.mem_range.1 (List.mem_of_find?_eq_some h)
  simp only [beq_iff_eq] at h1
  subst h1
  refine ⟨h2, ?_, digF_atoi ⟨k, h2⟩, digF_len ⟨k, h2⟩⟩
  unfold digF
  split
  · next h3 => exact Lib.decDigits_one h3
  · next h3 => exact Lib.decDigits_two h3 h2

/-- the token at the beginning of a text; 'none': something that this says nothing of -/
def tokF (l : Str) : Option Tok := match l with
  | [] => none
  | c :: _ =>
    if isLetter c then
      let x := l.take (runL wordR l)
      if isWord x then some ⟨2, x, 0, 0⟩ else if isName x then some ⟨1, x, 0, 0⟩ else none
    else if isDigit c then
      let x := l.take (runL digitR l)
      match numF x with
      | some k => some ⟨3, x, k, 0⟩
      | none => none
    else if c = 39 then none
    else (signF l).map fun x => ⟨4, x, 0, 0⟩

set_option maxRecDepth 100000 in
set_option maxHeartbeats 2000000 in
theorem token_yes (l : Str) (ha : Asc l) (t : Tok) (ht : tokF l = some t) (w : World) : Calls Tryz.prog 111 #[S l] w (RetTok t w) := by
  cases l with
  | nil => cases ht
  | cons c r =>
    obtain ⟨l, hl⟩ : ∃ l, l = c :: r := ⟨_, rfl⟩
    rw [← hl] at ha ht ⊢
    have hne : l ≠ [] := by rw [hl]; simp
    have hc : c.toNat < 128 := ha c (by rw [hl]; simp)
    have hcz : (c.toNat : Int) < 128 := by omega
    have hlen : 0 < l.length := by rw [hl]; simp
    have h0 : ((⟨l.toArray⟩ : ByteArray)[0]'hlen) = c := by subst hl; rfl
    have htok : (letterR c.toNat = true ∧ Calls Tryz.prog 171 #[S l] (w.alloc (.cells #[I 0, S [], I 0, I 0] 119)) (RetTok t (w.alloc (.cells #[I 0, S [], I 0, I 0] 119)))) ∨
      (letterR c.toNat = false ∧ digitR c.toNat = true ∧ Calls Tryz.prog 173 #[S l] (w.alloc (.cells #[I 0, S [], I 0, I 0] 119)) (RetTok t (w.alloc (.cells #[I 0, S [], I 0, I 0] 119)))) ∨
      (letterR c.toNat = false ∧ digitR c.toNat = false ∧ c.toNat ≠ 39 ∧ Calls Tryz.prog 175 #[S l] (w.alloc (.cells #[I 0, S [], I 0, I 0] 119)) (RetTok t (w.alloc (.cells #[I 0, S [], I 0, I 0] 119)))) := by
      unfold tokF at ht
      rw [hl] at ht
      simp only [← hl] at ht
      rw [isLetter_eq, isDigit_eq] at ht
      cases hlt : letterR c.toNat
      · rw [hlt] at ht
        simp only [Bool.false_eq_true, if_false] at ht
        cases hd : digitR c.toNat
        · rw [hd] at ht
          simp only [Bool.false_eq_true, if_false] at ht
          split at ht
          · cases ht
          · next h39 =>
            obtain ⟨x, hx, rfl⟩ := Option.map_eq_some_iff.1 ht
            exact .inr (.inr ⟨rfl, rfl, fun e => h39 (by rw [← UInt8.toNat_inj]; exact e), sign_yes l x hne hx _⟩)
        · rw [hd] at ht
          simp only [if_true] at ht
          split at ht
          · next k hk =>
            cases ht
            obtain ⟨n1, n2, n3, n4⟩ := numF_ok hk
            exact .inr (.inl ⟨rfl, rfl, number_yes l ha _ rfl k n1 n3 n2 n4 _⟩)
          · cases ht
      · rw [hlt] at ht
        simp only [if_true] at ht
        split at ht
        · next h => cases ht; exact .inl ⟨rfl, word_yes l ha _ rfl 2 (.inl ⟨rfl, h⟩) _⟩
        · next h =>
          split at ht
          · next h2 => cases ht; exact .inl ⟨rfl, word_yes l ha _ rfl 1 (.inr ⟨rfl, by simpa using h, h2⟩) _⟩
          · cases ht
    have hlet : ∀ W, Calls Tryz.prog 170 #[R32 c.toNat] W fun e w' => e = .returned (.bool (letterR c.toNat)) ∧ W = w' := fun W => letter_any _ W (by omega) hcz
    have hdig : ∀ W, Calls Tryz.prog 172 #[R32 c.toNat] W fun e w' => e = .returned (.bool (digitR c.toNat)) ∧ W = w' := fun W => digit_any _ W (by omega) hcz
    have HLET := Lib.hid hlet
    have HDIG := Lib.hid hdig
    have HT := Lib.hid ht
    have hlz : (0 : Int) < (l.length : Int) := by omega
    clear hlet hdig ht ha hl hne
    go_enter Tryz.func111, Tryz.ntmps111
    rcases htok with ⟨h1, hcall⟩ | ⟨h1, h2, hcall⟩ | ⟨h1, h2, h39, hcall⟩
    · have H1 := Lib.hid h1
      have HC := Lib.hid hcall
      clear h1 hcall
      go_wp2_with (first
        | (go_at_call 170; refine (HLET.out _).mono ?_; rintro e w1 ⟨rfl, rfl⟩; rw [H1.out])
        | (go_at_call 171; refine HC.out.mono ?_; rintro e w2 ⟨rfl, hb2⟩; rw [World.size_alloc] at hb2; have hk2 := (hb2.block w.heap.size (by omega)).trans (heap_new _ _); have HK2 := Lib.hid hk2; have HB2 := Lib.hid ((below_a1 w _).trans (hb2.mono (by omega))); clear hb2 hk2)
        | (refine wpList_store_row rfl 119 (.tmp 2) (.tmp 13) rfl w.heap.size _ rfl rfl 119 _ HK2.out (by kernel_rfl) (by rfl) (by simp [Value.oneCell']) ?_))
      refine bodyPost_ret (results_ct rfl _ _ w.heap.size 119 _ (0, 0) _ rfl (setRow_heap _ _ _ _ _ _ HK2.out) Tryz.underlying119 rfl (by kernel_rfl)) rfl ?_
      exact ⟨rfl, HB2.out.grown (row := some w.heap.size) ⟨rfl, rfl, rfl, by simp, fun i _ hi => setRow_other _ _ _ _ (fun e => hi (by rw [e]))⟩ HB2.out.size (fun r e => by cases e; exact Nat.le_refl _)⟩
    · have H1 := Lib.hid h1
      have H2 := Lib.hid h2
      have HC := Lib.hid hcall
      clear h1 h2 hcall
      go_wp2_with (first
        | (go_at_call 170; refine (HLET.out _).mono ?_; rintro e w1 ⟨rfl, rfl⟩; rw [H1.out])
        | (go_at_call 172; refine (HDIG.out _).mono ?_; rintro e w1 ⟨rfl, rfl⟩; rw [H2.out])
        | (go_at_call 173; refine HC.out.mono ?_; rintro e w2 ⟨rfl, hb2⟩; rw [World.size_alloc] at hb2; have hk2 := (hb2.block w.heap.size (by omega)).trans (heap_new _ _); have HK2 := Lib.hid hk2; have HB2 := Lib.hid ((below_a1 w _).trans (hb2.mono (by omega))); clear hb2 hk2)
        | (refine wpList_store_row rfl 119 (.tmp 2) (.tmp 20) rfl w.heap.size _ rfl rfl 119 _ HK2.out (by kernel_rfl) (by rfl) (by simp [Value.oneCell']) ?_))
      refine bodyPost_ret (results_ct rfl _ _ w.heap.size 119 _ (0, 0) _ rfl (setRow_heap _ _ _ _ _ _ HK2.out) Tryz.underlying119 rfl (by kernel_rfl)) rfl ?_
      exact ⟨rfl, HB2.out.grown (row := some w.heap.size) ⟨rfl, rfl, rfl, by simp, fun i _ hi => setRow_other _ _ _ _ (fun e => hi (by rw [e]))⟩ HB2.out.size (fun r e => by cases e; exact Nat.le_refl _)⟩
    · have H1 := Lib.hid h1
      have H2 := Lib.hid h2
      have HC := Lib.hid hcall
      have h39z : ((c.toNat : Int) == 39) = false := beq_eq_false_iff_ne.2 (by omega)
      clear h1 h2 hcall h39
      go_wp2_with (first
        | (go_at_call 170; refine (HLET.out _).mono ?_; rintro e w1 ⟨rfl, rfl⟩; rw [H1.out])
        | (go_at_call 172; refine (HDIG.out _).mono ?_; rintro e w1 ⟨rfl, rfl⟩; rw [H2.out])
        | (go_at_call 175; refine HC.out.mono ?_; rintro e w2 ⟨rfl, hb2⟩; rw [World.size_alloc] at hb2; have hk2 := (hb2.block w.heap.size (by omega)).trans (heap_new _ _); have HK2 := Lib.hid hk2; have HB2 := Lib.hid ((below_a1 w _).trans (hb2.mono (by omega))); clear hb2 hk2)
        | (refine wpList_store_row rfl 119 (.tmp 2) (.tmp 31) rfl w.heap.size _ rfl rfl 119 _ HK2.out (by kernel_rfl) (by rfl) (by simp [Value.oneCell']) ?_))
      refine bodyPost_ret (results_ct rfl _ _ w.heap.size 119 _ (0, 0) _ rfl (setRow_heap _ _ _ _ _ _ HK2.out) Tryz.underlying119 rfl (by kernel_rfl)) rfl ?_
      exact ⟨rfl, HB2.out.grown (row := some w.heap.size) ⟨rfl, rfl, rfl, by simp, fun i _ hi => setRow_other _ _ _ _ (fun e => hi (by rw [e]))⟩ HB2.out.size (fun r e => by cases e; exact Nat.le_refl _)⟩
end Go.Proofs.YtjgbkdbkachciaaGreatDoor
