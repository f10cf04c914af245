import Derived.Test.YtdlcpmjhngfgkaaE3
namespace Go.Proofs.Ytdlcpmjhngfgkaa
open Go.RowKit Go.Shelf

/-- how many slots places need -/
def slotsL (l : List Int) : Int := l.foldl (fun n p => max n (-p)) 0

set_option maxRecDepth 100000 in
set_option maxHeartbeats 1000000 in
theorem slots_any (w : World) (v : Value) (l : List Int) (hv : RInts w v l) (hs : ∀ p ∈ l, -1000000000 ≤ p) :
    Calls Try.prog 13 #[v] w fun e w' => e = .returned (I (slotsL l)) ∧ w = w' := by
  obtain ⟨a0, c0, rfl, hlen⟩ := RSl.form hv
  have HV := Lib.hid hv
  have HS := Lib.hid hs
  clear hv hs
  go_enter Try.func13, Try.ntmps13
  go_wp2
  go_loopg [2, 7] l.length (fun gh n i wr => ∃ k : Nat, gh + k = l.length ∧ i = I k ∧ w = wr ∧ n = I (slotsL (l.take k)) ∧ 0 ≤ slotsL (l.take k) ∧ slotsL (l.take k) ≤ 9223372036854775807)
  case atStart => exact ⟨0, rfl, rfl, rfl, rfl, by simp [slotsL], by simp [slotsL]⟩
  case round =>
    obtain ⟨k, hg, rfl, rfl, rfl, h0, h1⟩ := hrel
    by_cases hlt : k < l.length
    · obtain ⟨b, o, c, he, hc, hi⟩ := RInts.at HV.out hlt
      obtain ⟨rfl, rfl⟩ : a0 = some ⟨b, o, none⟩ ∧ c0 = c := by simpa using he
      clear he
      have hp := HS.out l[k] (List.getElem_mem hlt)
      have hst : slotsL (l.take (k + 1)) = max (slotsL (l.take k)) (-l[k]) := by
        unfold slotsL
        rw [List.take_add_one, List.getElem?_eq_getElem hlt, List.foldl_append]
        rfl
      obtain ⟨q, hq⟩ : ∃ q, q = slotsL (l.take k) := ⟨_, rfl⟩
      obtain ⟨y, hy⟩ : ∃ y, y = l[k] := ⟨_, rfl⟩
      rw [← hq] at h0 h1 ⊢
      rw [← hy] at hc hi hp
      unfold InI at hi
      have HQ := Lib.hid hq
      have HY := Lib.hid hy
      have HST := Lib.hid hst
      clear hq hy hst
      go_wp2
      go_roundg (l.length - (k + 1))
      case measure => omega
      case rel =>
        refine ⟨k + 1, by omega, by go_num, rfl, ?_, ?_, ?_⟩
        · rw [HST.out, ← HQ.out, ← HY.out]
        · rw [HST.out, ← HQ.out, ← HY.out]; omega
        · rw [HST.out, ← HQ.out, ← HY.out]; omega
    · go_wp2
      go_ret
      rw [List.take_of_length_le (by omega)]
      exact ⟨rfl, rfl⟩

end Go.Proofs.Ytdlcpmjhngfgkaa
