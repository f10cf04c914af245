import Derived.Test.YtdlcpmjhngfgkaaM2
import Derived.Test.YtdlcpmjhngfgkaaG3
namespace Go.Proofs.Ytdlcpmjhngfgkaa
open Go.RowKit Go.Shelf
attribute [local go_sem] Oper.semAt_some

set_option maxRecDepth 100000 in
set_option maxHeartbeats 4000000 in
/-- of what may not be, nothing -/
theorem alloc_bad (f : LFlow) (bv : Value) (w : World) (hf : Fine w f bv) (reg : Int) (hreg : rmayB f = false ∨ reg < 0 ∨ 32 < reg) (hin : InI reg) :
    Calls Try.prog 9 #[f.agg bv, I reg] w fun e w' => e = .returned (.slice none 0 0) ∧ Below w.heap.size w w' := by
  by_cases h : reg < 0 ∨ 32 < reg
  · exact alloc_no f bv w hf reg h hin
  · have hm : rmayB f = false := by
      rcases hreg with h' | h'
      · exact h'
      · exact absurd h' h
    obtain ⟨a0, c0, rfl, hlen⟩ := RSl.form hf.blocks
    have HF := Lib.hid hf
    have HM := Lib.hid hm
    clear hf hm hreg h
    unfold InI at hin
    go_enter Try.func9, Try.ntmps9
    go_wp2_with (first
      | (go_at_call 15; refine (rmay_any f _ _ (HF.out.below (below_a1 _ _))).mono ?_; rintro e w1 ⟨rfl, hb1⟩; rw [HM.out]; have HB1 := Lib.hid hb1; clear hb1))
    go_ret
    exact ⟨rfl, (below_a1 w _).trans (HB1.out.mono (by simp))⟩

def AlcMay (f : LFlow) (reg : Int) : Prop := rmayB f = true ∧ 0 ≤ reg ∧ reg ≤ 32
/-- what is allocated -/
def Alc (f : LFlow) (reg : Int) (out : List Int) : Prop :=
  (AlcMay f reg ∧ FitsS f out ∧ (∀ p ∈ out, p < reg) ∧ ∃ n r : Nat, reg = r ∧ f.values = n ∧ AllocD f n r out) ∨ (¬ AlcMay f reg ∧ out = [])
theorem Alc.one {f : LFlow} {reg : Int} {a b : List Int} (h : Alc f reg a) (h' : Alc f reg b) : a = b := by
  rcases h with ⟨h, _, _, n, r, h1, h2, h3⟩ | ⟨h, rfl⟩
  · rcases h' with ⟨_, _, _, n', r', k1, k2, k3⟩ | ⟨k, _⟩
    · obtain rfl : n = n' := by omega
      obtain rfl : r = r' := by omega
      exact h3.one k3
    · exact absurd h k
  · rcases h' with ⟨k, _⟩ | ⟨_, rfl⟩
    · exact absurd k h
    · rfl
theorem Alc.lt {f : LFlow} {reg : Int} {a : List Int} (h : Alc f reg a) : ∀ p ∈ a, p < reg := by
  rcases h with ⟨_, _, h, _⟩ | ⟨_, rfl⟩
  · exact h
  · intro p hp; cases hp
theorem Alc.fits {f : LFlow} {reg : Int} {a : List Int} (h : Alc f reg a) (hm : AlcMay f reg) : FitsS f a := by
  rcases h with ⟨_, h, _⟩ | ⟨h, _⟩
  · exact h
  · exact absurd hm h
theorem Alc.none {f : LFlow} {reg : Int} {a : List Int} (h : Alc f reg a) (hm : ¬ AlcMay f reg) : a = [] := by
  rcases h with ⟨h, _⟩ | ⟨_, h⟩
  · exact absurd h hm
  · exact h

theorem alloc_all (f : LFlow) (bv : Value) (w : World) (hf : Fine w f bv) (reg : Int) (hin : InI reg) :
    Calls Try.prog 9 #[f.agg bv, I reg] w fun e w' => ∃ v out, e = .returned v ∧ RInts w' v out ∧ out.length ≤ 50000 ∧ Alc f reg out ∧ Below w.heap.size w w' := by
  by_cases h : AlcMay f reg
  · obtain ⟨h1, h2, h3⟩ := h
    obtain ⟨v0, v1, v2, v3⟩ := rmay_parts h1
    obtain ⟨r, rfl⟩ : ∃ r : Nat, reg = r := ⟨reg.toNat, by omega⟩
    obtain ⟨n, hn⟩ : ∃ n : Nat, f.values = n := ⟨f.values.toNat, by omega⟩
    refine (allocD_any f bv w hf h1 n hn r (by omega)).mono ?_
    rintro e w' ⟨g, out, rfl, hg, hrow, hk, hd, hb⟩
    have hri := hrow.ints (fun x hx => by have := hk.rng x hx; unfold InI; omega) (by have := hk.len; omega) n
    rw [hk.len] at hri
    exact ⟨_, out, rfl, hri, by have := hk.len; omega, .inl ⟨⟨h1, h2, h3⟩, ⟨h1, by rw [hk.len, hn], hk.apart⟩, fun p hp => (hk.rng p hp).2, n, r, rfl, hn, hd⟩, hb⟩
  · refine (alloc_bad f bv w hf reg ?_ hin).mono ?_
    · cases hm : rmayB f
      · exact .inl rfl
      · right
        by_cases h0 : reg < 0
        · exact .inl h0
        · right
          by_cases h1 : 32 < reg
          · exact h1
          · exact absurd ⟨hm, by omega, by omega⟩ h
    · rintro e w' ⟨rfl, hb⟩
      exact ⟨_, [], rfl, ⟨none, 0, rfl, by simp, .inl rfl⟩, by simp, .inr ⟨h, rfl⟩, hb⟩
end Go.Proofs.Ytdlcpmjhngfgkaa
