import Derived.Test.YtdlcpmjhngfgkaaE2
namespace Go.Proofs.Ytdlcpmjhngfgkaa
open Go.RowKit Go.Shelf

theorem meet_I (base T M P R n : Nat) (pairs : List (Int × Int)) (cs : List Value) (adj : List (List Int)) (w : World) (hm : Meets w base T M P R n pairs cs adj) (hn : n ≤ 1000000) (a b : Int) (ha : 0 ≤ a ∧ a < n) (hb : 0 ≤ b ∧ b < n) :
    Calls Try.prog 35 #[.pointer (some ⟨M, 0, none⟩), I a, I b] w (MeetPost base T M P R n (meetL a b pairs) w) := by
  obtain ⟨x, rfl⟩ : ∃ x : Nat, a = (x : Int) := ⟨a.toNat, by omega⟩
  obtain ⟨y, rfl⟩ : ∃ y : Nat, b = (y : Int) := ⟨b.toNat, by omega⟩
  exact meet_any base T M P R n pairs cs adj w hm hn x y (by omega) (by omega)

def AllMeet (l : List Int) (p : Int × Int) : Prop := ∃ a ∈ l, ∃ b ∈ l, a ≠ b ∧ p = pairOf a b

def MeetsPost (base T M P R n : Nat) (pairs : List (Int × Int)) (S : Int × Int → Prop) (w : World) (w' : World) : Prop :=
  ∃ pairs' cs adj, Meets w' base T M P R n pairs' cs adj ∧ (∀ p, p ∈ pairs' ↔ p ∈ pairs ∨ S p) ∧ KeptT T P R w w'

set_option maxRecDepth 100000 in
set_option maxHeartbeats 4000000 in
theorem mall_any (base T M P R n : Nat) (pairs : List (Int × Int)) (cs : List Value) (adj : List (List Int)) (w : World) (hm : Meets w base T M P R n pairs cs adj) (hn : n ≤ 1000000) (lv : Value) (l : List Int) (hl : ∀ w', KeptT T P R w w' → RInts w' lv l) (hcap : CapOk lv l) (hr : ∀ v ∈ l, 0 ≤ v ∧ v < n) :
    Calls Try.prog 33 #[.pointer (some ⟨M, 0, none⟩), lv] w fun e w' => (∃ v, e = .returned v) ∧ MeetsPost base T M P R n pairs (AllMeet l) w w' := by
  obtain ⟨a0, c0, rfl, hcl⟩ := hcap
  have hlen : l.length ≤ 140737488351232 := by obtain ⟨_, _, _, h⟩ := RSl.form (hl w (KeptT.refl _ _ _ _)); exact h
  have HM := Lib.hid hm
  have HL := Lib.hid hl
  have HR := Lib.hid hr
  clear hm hl hr
  go_enter Try.func33, Try.ntmps33
  go_wp2
  go_loopg [10] l.length (fun gh i wr => ∃ k : Nat, gh + k = l.length ∧ i = I k ∧ MeetsPost base T M P R n pairs (AllMeet (l.take k)) w wr)
  case atStart => exact ⟨0, rfl, rfl, pairs, cs, adj, HM.out, fun p => by simp [AllMeet], KeptT.refl _ _ _ _⟩
  case round =>
    obtain ⟨k, hg, rfl, p1, cs1, adj1, hm1, hp1, hk1⟩ := hrel
    obtain ⟨wo, rfl⟩ : ∃ wo, wo = wr := ⟨_, rfl⟩
    have HM1 := Lib.hid hm1
    have HP1 := Lib.hid hp1
    have HK1 := Lib.hid hk1
    clear hm1 hp1 hk1
    by_cases hlt : k < l.length
    · obtain ⟨b, o, c, he, hc, hi⟩ := RInts.at (HL.out wo HK1.out) hlt
      obtain ⟨rfl, rfl⟩ : a0 = some ⟨b, o, none⟩ ∧ c0 = c := by simpa using he
      clear he
      have hkc : (k : Int) ≤ (c0 : Int) := by omega
      have hc0 : ¬ c0 = 0 := by omega
      go_wp2
      go_loopg [19] k (fun gh i wr => ∃ j : Nat, gh + j = k ∧ i = I j ∧ MeetsPost base T M P R n pairs (fun p => AllMeet (l.take k) p ∨ ∃ b ∈ l.take j, l[k] ≠ b ∧ p = pairOf l[k] b) w wr)
      case atStart => exact ⟨0, rfl, rfl, p1, cs1, adj1, HM1.out, fun p => by rw [HP1.out p]; simp, HK1.out⟩
      case round =>
        obtain ⟨j, hg', rfl, p2, cs2, adj2, hm2, hp2, hk2⟩ := hrel
        obtain ⟨wx, rfl⟩ : ∃ wx, wx = wr := ⟨_, rfl⟩
        have HM2 := Lib.hid hm2
        have HP2 := Lib.hid hp2
        have HK2 := Lib.hid hk2
        clear hm2 hp2 hk2
        by_cases hlt' : j < k
        · obtain ⟨b', o', c', he, hc', hi'⟩ := RInts.at (HL.out wx HK2.out) (show j < l.length by omega)
          obtain ⟨⟨rfl, rfl⟩, rfl⟩ : (b = b' ∧ o = o') ∧ c0 = c' := by simpa using he
          clear he
          have hjl : j < l.length := by omega
          have HRK := Lib.hid (HR.out l[k] (List.getElem_mem hlt))
          have HRJ := Lib.hid (HR.out l[j] (List.getElem_mem hjl))
          go_wp2_with (first
            | (go_at_call 35; refine (meet_I base T M P R n p2 cs2 adj2 _ HM2.out hn l[k] l[j] HRK.out HRJ.out).mono ?_; rintro e w3 ⟨⟨v3, rfl⟩, cs3, adj3, hm3, hk3⟩; have HM3 := Lib.hid hm3; have HK3 := Lib.hid hk3; clear hm3 hk3))
          go_roundg (k - (j + 1))
          case measure => omega
          case rel =>
            refine ⟨j + 1, by omega, by go_num, _, cs3, adj3, HM3.out, fun p => ?_, HK2.out.trans HK3.out⟩
            rw [mem_meetL, HP2.out p, List.take_add_one, List.getElem?_eq_getElem hjl]
            simp only [Option.toList_some, List.mem_append, List.mem_singleton]
            constructor
            · rintro ((h | h | ⟨b, hb, h⟩) | ⟨h1, h2⟩)
              · exact .inl h
              · exact .inr (.inl h)
              · exact .inr (.inr ⟨b, .inl hb, h⟩)
              · exact .inr (.inr ⟨_, .inr rfl, h1, h2⟩)
            · rintro (h | h | ⟨b, hb | rfl, h⟩)
              · exact .inl (.inl h)
              · exact .inl (.inr (.inl h))
              · exact .inl (.inr (.inr ⟨b, hb, h⟩))
              · exact .inr h
        · have hjk : j = k := by omega
          subst hjk
          go_wp2
          go_roundg (l.length - (j + 1))
          case measure => omega
          case rel =>
            refine ⟨j + 1, by omega, by go_num, p2, cs2, adj2, HM2.out, fun p => ?_, HK2.out⟩
            rw [HP2.out p, List.take_add_one, List.getElem?_eq_getElem hlt]
            unfold AllMeet
            simp only [Option.toList_some, List.mem_append, List.mem_singleton]
            constructor
            · rintro (h | ⟨a, ha, b, hb, h⟩ | ⟨b, hb, h⟩)
              · exact .inl h
              · exact .inr ⟨a, .inl ha, b, .inl hb, h⟩
              · exact .inr ⟨_, .inr rfl, b, .inl hb, h⟩
            · rintro (h | ⟨a, ha | rfl, b, hb | rfl, h1, h2⟩)
              · exact .inl h
              · exact .inr (.inl ⟨a, ha, b, hb, h1, h2⟩)
              · exact .inr (.inr ⟨a, ha, fun e => h1 e.symm, by rw [h2]; unfold pairOf; rw [Int.min_comm, Int.max_comm]⟩)
              · exact .inr (.inr ⟨b, hb, h1, h2⟩)
              · exact absurd rfl h1
    · go_wp2
      refine bodyPost_end (results_none rfl _ _ _) rfl ?_
      refine ⟨⟨_, rfl⟩, p1, cs1, adj1, HM1.out, fun p => ?_, HK1.out⟩
      rw [HP1.out p, List.take_of_length_le (by omega)]

end Go.Proofs.Ytdlcpmjhngfgkaa
