import Derived.Test.YtjgbkdbkachciaaGreatDoorS1
namespace Go.Proofs.YtjgbkdbkachciaaGreatDoor
open Go.RowKit Go.Shelf
attribute [local go_sem] Oper.semAt_some

set_option maxRecDepth 100000 in
theorem pname_yes (pb tb : Nat) (t : Tok) (r : List Tok) (w : World) (h : PS w pb tb (t :: r)) (hr : r ≠ []) (hk : t.kind = 1) :
    Calls Tryz.prog 73 #[.pointer (some ⟨pb, 0, none⟩)] w fun e w' => e = .returned (S t.text) ∧ PG w pb tb r w' := by
  have hc := kind_yes pb tb t r w h hr
  rw [hk] at hc
  have HC := Lib.hid hc
  have hfd := tok_f1
  clear hc h hr hk
  go_enter Tryz.func73, Tryz.ntmps73
  go_wp2_with (first
    | (go_at_call 75; refine HC.out.mono ?_; rintro e w1 ⟨rfl, hp1⟩; have HP1 := Lib.hid hp1; clear hp1))
  go_ret
  exact ⟨rfl, HP1.out⟩

theorem unAt_succ (t : Tok) (k : Nat) (op : Int) : unAt t (k + 1) op = if tokIs t (signS op) then op else unAt t k (op + 1) := rfl
theorem binAt_succ (lv : Int) (t : Tok) (k : Nat) (op : Int) : binAt lv t (k + 1) op = if (tokIs t (signS op) && decide (lv ≤ levelI op)) = true then op else binAt lv t k (op + 1) := rfl

set_option maxRecDepth 100000 in
set_option maxHeartbeats 2000000 in
theorem unary_yes (pb tb : Nat) (t : Tok) (r : List Tok) (w : World) (h : PS w pb tb (t :: r)) (hr : r ≠ []) :
    Calls Tryz.prog 265 #[.pointer (some ⟨pb, 0, none⟩)] w fun e w' => e = .returned (I (unAt t 3 17)) ∧ PG w pb tb (if unAt t 3 17 = 0 then t :: r else r) w' := by
  obtain ⟨R, hR⟩ : ∃ R, R = unAt t 3 17 := ⟨_, rfl⟩
  rw [← hR]
  obtain ⟨us, hus⟩ : ∃ us, us = (if R = 0 then t :: r else r) := ⟨_, rfl⟩
  rw [← hus]
  have HUS := Lib.hid hus
  have HP := Lib.hid h
  have HRR := Lib.hid hR
  have HNE := Lib.hid hr
  clear h hR hr hus
  go_enter Tryz.func265, Tryz.ntmps265
  go_wp2
  go_loopg [3] 3 (fun gh v wr => ∃ i : Nat, gh + i = 3 ∧ v = I (17 + (i : Int)) ∧ Below w.heap.size w wr ∧ Hid (unAt t gh (17 + (i : Int)) = R))
  case atStart => exact ⟨0, rfl, rfl, Below.refl _ _, Lib.hid HRR.out.symm⟩
  case round =>
    obtain ⟨i, hg, rfl, hb, HX⟩ := hrel
    obtain ⟨wo, rfl⟩ : ∃ wo, wo = wr := ⟨_, rfl⟩
    have HB := Lib.hid hb
    have HPO := Lib.hid (HP.out.ext hb)
    clear hb
    obtain ⟨op, hop⟩ : ∃ op : Int, op = 17 + (i : Int) := ⟨_, rfl⟩
    rw [← hop] at HX ⊢
    have hop1 : 17 ≤ op := by omega
    have hop2 : op ≤ 20 := by omega
    by_cases hlt : i < 3
    · have hltz : op ≤ 19 := by omega
      obtain ⟨g1, rfl⟩ : ∃ g1, gk = g1 + 1 := ⟨gk - 1, by omega⟩
      have hX := HX.out
      rw [unAt_succ] at hX
      have HO := Lib.hid hop
      cases htk : tokIs t (signS op)
      · rw [htk] at hX
        simp only [Bool.false_eq_true, if_false] at hX
        have HTK := Lib.hid htk
        have HX2 := Lib.hid hX
        clear hX HX htk hop
        go_wp2_with (first
          | (go_at_call 267; refine (sign_any op wo).mono ?_; rintro e w1 ⟨⟨b1, rfl⟩, hb1⟩; have HB1 := Lib.hid (HB.out.trans (hb1.mono HB.out.size)); have HP1 := Lib.hid (HPO.out.ext hb1); clear hb1)
          | (go_at_call 74; refine (take_no pb tb t r (signS op) w1 HP1.out HTK.out).mono ?_; rintro e w2 ⟨rfl, hb2⟩; have HB2 := Lib.hid (HB1.out.trans (hb2.mono HB1.out.size)); clear hb2))
        go_roundg g1
        case measure => omega
        case rel => exact ⟨i + 1, by omega, by rw [HO.out]; go_num, HB2.out, by rw [show 17 + ((i + 1 : Nat) : Int) = op + 1 by have := HO.out; omega]; exact HX2⟩
      · rw [htk] at hX
        simp only [if_true] at hX
        have HTK := Lib.hid htk
        have HX2 := Lib.hid hX
        clear hX HX htk hop
        go_wp2_with (first
          | (go_at_call 267; refine (sign_any op wo).mono ?_; rintro e w1 ⟨⟨b1, rfl⟩, hb1⟩; have HB1 := Lib.hid (HB.out.trans (hb1.mono HB.out.size)); have HP1 := Lib.hid (HPO.out.ext hb1); clear hb1)
          | (go_at_call 74; refine (take_yes pb tb t r (signS op) w1 HP1.out HTK.out HNE.out).mono ?_; rintro e w2 ⟨rfl, hp2⟩; have HP2 := Lib.hid hp2; clear hp2))
        go_ret
        refine ⟨by rw [HX2.out]; rfl, ?_⟩
        rw [HUS.out, if_neg (by rw [← HX2.out]; omega)]
        exact ⟨grown_trans (below_grown HB1.out _) HP2.out.1, HP2.out.2⟩
    · have hltz : ¬ op ≤ 19 := by omega
      obtain rfl : gk = 0 := by omega
      have HX2 := Lib.hid (show (0 : Int) = R from HX.out)
      clear HX hop
      go_wp2
      go_ret
      refine ⟨by rw [← HX2.out]; rfl, ?_⟩
      rw [HUS.out, if_pos HX2.out.symm]
      exact PG.start HP.out HB.out

set_option maxRecDepth 100000 in
set_option maxHeartbeats 2000000 in
theorem binary_yes (pb tb : Nat) (lv : Int) (t : Tok) (r : List Tok) (w : World) (h : PS w pb tb (t :: r)) :
    Calls Tryz.prog 258 #[.pointer (some ⟨pb, 0, none⟩), I lv] w fun e w' => e = .returned (I (binAt lv t 16 1)) ∧ Below w.heap.size w w' := by
  obtain ⟨R, hR⟩ : ∃ R, R = binAt lv t 16 1 := ⟨_, rfl⟩
  rw [← hR]
  have HP := Lib.hid h
  have HRR := Lib.hid hR
  clear h hR
  go_enter Tryz.func258, Tryz.ntmps258
  go_wp2
  go_loopg [5] 16 (fun gh v wr => ∃ i : Nat, gh + i = 16 ∧ v = I (1 + (i : Int)) ∧ Below w.heap.size w wr ∧ Hid (binAt lv t gh (1 + (i : Int)) = R))
  case atStart => exact ⟨0, rfl, rfl, Below.refl _ _, Lib.hid HRR.out.symm⟩
  case round =>
    obtain ⟨i, hg, rfl, hb, HX⟩ := hrel
    obtain ⟨wo, rfl⟩ : ∃ wo, wo = wr := ⟨_, rfl⟩
    have HB := Lib.hid hb
    have HPO := Lib.hid (HP.out.ext hb)
    clear hb
    obtain ⟨op, hop⟩ : ∃ op : Int, op = 1 + (i : Int) := ⟨_, rfl⟩
    rw [← hop] at HX ⊢
    have hop1 : 1 ≤ op := by omega
    have hop2 : op ≤ 17 := by omega
    by_cases hlt : i < 16
    · have hltz : op ≤ 16 := by omega
      obtain ⟨g1, rfl⟩ : ∃ g1, gk = g1 + 1 := ⟨gk - 1, by omega⟩
      have hX := HX.out
      rw [binAt_succ] at hX
      have HO := Lib.hid hop
      cases htk : tokIs t (signS op)
      · rw [htk] at hX
        simp only [Bool.false_and, Bool.false_eq_true, if_false] at hX
        have HTK := Lib.hid htk
        have HX2 := Lib.hid hX
        clear hX HX htk hop
        go_wp2_with (first
          | (go_at_call 267; refine (sign_any op wo).mono ?_; rintro e w1 ⟨⟨b1, rfl⟩, hb1⟩; have HB1 := Lib.hid (HB.out.trans (hb1.mono HB.out.size)); have HP1 := Lib.hid (HPO.out.ext hb1); clear hb1)
          | (go_at_call 112; refine (is_yes pb tb t r (signS op) w1 HP1.out).mono ?_; rintro e w2 ⟨rfl, hb2⟩; rw [HTK.out]; have HB2 := Lib.hid (HB1.out.trans (hb2.mono HB1.out.size)); clear hb2))
        go_roundg g1
        case measure => omega
        case rel => exact ⟨i + 1, by omega, by rw [HO.out]; go_num, HB2.out, by rw [show 1 + ((i + 1 : Nat) : Int) = op + 1 by have := HO.out; omega]; exact HX2⟩
      · rw [htk] at hX
        simp only [Bool.true_and, decide_eq_true_eq] at hX
        by_cases hlev : lv ≤ levelI op
        · rw [if_pos hlev] at hX
          have HTK := Lib.hid htk
          have HX2 := Lib.hid hX
          clear hX HX htk hop
          go_wp2_with (first
            | (go_at_call 267; refine (sign_any op wo).mono ?_; rintro e w1 ⟨⟨b1, rfl⟩, hb1⟩; have HB1 := Lib.hid (HB.out.trans (hb1.mono HB.out.size)); have HP1 := Lib.hid (HPO.out.ext hb1); clear hb1)
            | (go_at_call 112; refine (is_yes pb tb t r (signS op) w1 HP1.out).mono ?_; rintro e w2 ⟨rfl, hb2⟩; rw [HTK.out]; have HB2 := Lib.hid (HB1.out.trans (hb2.mono HB1.out.size)); clear hb2)
            | (go_at_call 144; refine (level_any op w2).mono ?_; rintro e w3 ⟨rfl, hb3⟩; have HB3 := Lib.hid (HB2.out.trans (hb3.mono HB2.out.size)); clear hb3))
          go_ret
          exact ⟨by rw [← HX2.out]; rfl, HB3.out⟩
        · rw [if_neg hlev] at hX
          have HTK := Lib.hid htk
          have HX2 := Lib.hid hX
          clear hX HX htk hop
          go_wp2_with (first
            | (go_at_call 267; refine (sign_any op wo).mono ?_; rintro e w1 ⟨⟨b1, rfl⟩, hb1⟩; have HB1 := Lib.hid (HB.out.trans (hb1.mono HB.out.size)); have HP1 := Lib.hid (HPO.out.ext hb1); clear hb1)
            | (go_at_call 112; refine (is_yes pb tb t r (signS op) w1 HP1.out).mono ?_; rintro e w2 ⟨rfl, hb2⟩; rw [HTK.out]; have HB2 := Lib.hid (HB1.out.trans (hb2.mono HB1.out.size)); clear hb2)
            | (go_at_call 144; refine (level_any op w2).mono ?_; rintro e w3 ⟨rfl, hb3⟩; have HB3 := Lib.hid (HB2.out.trans (hb3.mono HB2.out.size)); clear hb3))
          go_roundg g1
          case measure => omega
          case rel => exact ⟨i + 1, by omega, by rw [HO.out]; go_num, HB3.out, by rw [show 1 + ((i + 1 : Nat) : Int) = op + 1 by have := HO.out; omega]; exact HX2⟩
    · have hltz : ¬ op ≤ 16 := by omega
      obtain rfl : gk = 0 := by omega
      have HX2 := Lib.hid (show (0 : Int) = R from HX.out)
      clear HX hop
      go_wp2
      go_ret
      exact ⟨by rw [← HX2.out]; rfl, HB.out⟩
end Go.Proofs.YtjgbkdbkachciaaGreatDoor
