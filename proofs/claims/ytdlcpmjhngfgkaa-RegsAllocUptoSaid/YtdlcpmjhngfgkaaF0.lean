import Derived.Test.YtdlcpmjhngfgkaaE9
namespace Go.Proofs.Ytdlcpmjhngfgkaa
open Go.RowKit Go.Shelf

set_option maxRecDepth 100000 in
set_option maxHeartbeats 1000000 in
theorem stable_any (w : World) (D n u : Nat) (cf : Int → Int → Int) (hcf : CmpOk w D n u cf) (l0 : List Int) (cap : Nat) (hn : l0.length < 20) (hrow : Row w D 3 (l0.map I)) (hin : ∀ x ∈ l0, 0 ≤ x ∧ x < n) :
    Calls Try.prog 37 #[.slice (some ⟨D, 0, none⟩) l0.length cap, I l0.length, .func (.func 19) #[] #[.pointer (some ⟨u, 0, none⟩)]] w fun e w' => (∃ v, e = .returned v) ∧ Resorted D l0 w w' := by
  have HCF := Lib.hid hcf
  have HIN := Lib.hid hin
  have HR := Lib.hid hrow
  have h1 : ¬ (20 : Int) ≤ (l0.length : Int) := by omega
  have h2 : ¬ (20 : Int) < (l0.length : Int) := by omega
  clear hcf hin hrow
  go_enter Try.func37, Try.ntmps37
  go_wp2
  go_loopg [7, 8] 0 (fun gh va vb wr => va = I 0 ∧ vb = I 20 ∧ wr = w)
  case atStart => exact ⟨rfl, rfl, rfl⟩
  case round =>
    obtain ⟨rfl, rfl, rfl⟩ := hrel
    go_wp2_with (first
      | (go_at_call 52; refine (ins_any _ D n u cf HCF.out l0 cap 0 l0.length (by omega) (Nat.le_refl _) (by omega) HR.out HIN.out).mono ?_; rintro e w1 ⟨⟨v1, rfl⟩, hre⟩; have HRE := Lib.hid hre; clear hre))
    go_loopg [6] 0 (fun gh va wr => va = I 20 ∧ wr = w1)
    case atStart => exact ⟨rfl, rfl⟩
    case round =>
      obtain ⟨rfl, rfl⟩ := hrel
      go_wp2
      go_end0
      exact ⟨⟨_, rfl⟩, HRE.out⟩

set_option maxRecDepth 100000 in
set_option maxHeartbeats 1000000 in
theorem sortStable_any (w : World) (D n u : Nat) (cf : Int → Int → Int) (hcf : CmpOk w D n u cf) (l0 : List Int) (cap : Nat) (hn : l0.length < 20) (hrow : Row w D 3 (l0.map I)) (hin : ∀ x ∈ l0, 0 ≤ x ∧ x < n) :
    Calls Try.prog 18 #[.slice (some ⟨D, 0, none⟩) l0.length cap, .func (.func 19) #[] #[.pointer (some ⟨u, 0, none⟩)]] w fun e w' => (∃ v, e = .returned v) ∧ Resorted D l0 w w' := by
  have HCF := Lib.hid hcf
  have HIN := Lib.hid hin
  have HR := Lib.hid hrow
  clear hcf hin hrow
  go_enter Try.func18, Try.ntmps18
  go_wp2_with (first
    | (go_at_call 37; refine (stable_any _ D n u cf HCF.out l0 cap hn HR.out HIN.out).mono ?_; rintro e w1 ⟨⟨v1, rfl⟩, hre⟩; have HRE := Lib.hid hre; clear hre))
  go_end0
  exact ⟨⟨_, rfl⟩, HRE.out⟩

end Go.Proofs.Ytdlcpmjhngfgkaa
