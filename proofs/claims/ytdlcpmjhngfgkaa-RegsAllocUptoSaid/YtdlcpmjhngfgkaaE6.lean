import Derived.Test.YtdlcpmjhngfgkaaE3
namespace Go.Proofs.Ytdlcpmjhngfgkaa
open Go.RowKit Go.Shelf

/-- how many slots places need -/
def slotsL (l : List Int) : Int := l.foldl (fun n p => max n (-p)) 0

set_option maxRecDepth 100000 in
set_option maxHeartbeats 1000000 in
theorem slots_any (w : World) (v : Value) (l : List Int) (hv : RInts w v l) (hs : ∀ p ∈ l, -1000000000 ≤ p) :
    Calls Try.prog 13 #[v] w fun e w' => e = .returned (I (slotsL l)) ∧ w = w' := by
  obtain ⟨a0, c0, rfl, hlen⟩ := RSl.form hv
  have HV := Lib.hid hv
  have HS := Lib.hid hs
  clear hv hs
  go_enter Try.func13, Try.ntmps13
  go_wp2
  go_loopg [2, 7] l.length (fun gh n i wr => ∃ k : Nat, gh + k = l.length ∧ i = I k ∧ w = wr ∧ n = I (slotsL (l.take k)) ∧ 0 ≤ slotsL (l.take k) ∧ slotsL (l.take k) ≤ 9223372036854775807)
  case atStart => exact ⟨0, rfl, rfl, rfl, rfl, by simp [slotsL], by simp [slotsL]⟩
  case round =>
    obtain ⟨k, hg, rfl, rfl, rfl, h0, h1⟩ := hrel
    by_cases hlt : k < l.length
    · obtain ⟨b, o, c, he, hc, hi⟩ := RInts.at HV.out hlt
      obtain ⟨rfl, rfl⟩ : a0 = some ⟨b, o, none⟩ ∧ c0 = c := by simpa using he
      clear he
      have hp := HS.out l[k] (List.getElem_mem hlt)
      have hst : slotsL (l.take (k + 1)) = max (slotsL (l.take k)) (-l[k]) := by
        unfold slotsL
        rw [List.take_add_one, List.getElem?_eq_getElem hlt, List.foldl_append]
        rfl
      obtain ⟨q, hq⟩ : ∃ q, q = slotsL (l.take k) := ⟨_, rfl⟩
      obtain ⟨y, hy⟩ : ∃ y, y = l[k] := ⟨_, rfl⟩
      rw [← hq] at h0 h1 ⊢
      rw [← hy] at hc hi hp
      unfold InI at hi
      have HQ := Lib.hid hq
      have HY := Lib.hid hy
      have HST := Lib.hid hst
      clear hq hy hst
      go_wp2
      go_roundg (l.length - (k + 1))
      case measure => omega
      case rel =>
        refine ⟨k + 1, by omega, by go_num, rfl, ?_, ?_, ?_⟩
        · rw [HST.out, ← HQ.out, ← HY.out]
        · rw [HST.out, ← HQ.out, ← HY.out]; omega
        · rw [HST.out, ← HQ.out, ← HY.out]; omega
    · go_wp2
      go_ret
      rw [List.take_of_length_le (by omega)]
      exact ⟨rfl, rfl⟩

end Go.Proofs.Ytdlcpmjhngfgkaa

namespace Go.Proofs.Ytdlcpmjhngfgkaa
open Go.RowKit Go.Shelf

def RBool (_ : World) (C : Nat → Value) (x : Bool) : Prop := C 0 = .bool x

/-- the places that those have of l that have one -/
def hadL (l : List Int) (ts : List Int) (ds : List Bool) : List Int := l.filterMap fun v => if ds[v.toNat]? = some true then ts[v.toNat]? else none

set_option maxRecDepth 100000 in
set_option maxHeartbeats 2000000 in
theorem free_any (w : World) (ov tv dv : Value) (l ts : List Int) (ds : List Bool) (hl : RInts w ov l) (ht : RInts w tv ts) (hd : RSl 1 RBool w dv ds) (hn : ts.length = ds.length) (hr : ∀ v ∈ l, 0 ≤ v ∧ v < ts.length) (reg : Nat) (hreg : reg ≤ 32) (B : Nat) (hB : B ≤ 1000000) (hlo : ∀ p ∈ hadL l ts ds, -(B : Int) ≤ p) :
    Calls Try.prog 20 #[ov, tv, dv, I reg] w fun e w' => ∃ p : Int, e = .returned (I p) ∧ p ∉ hadL l ts ds ∧ p < reg ∧ -(B : Int) - 1 ≤ p ∧ Below w.heap.size w w' := by
  have hmm := @run_makeMap Try.prog
  obtain ⟨a0, c0, rfl, hlen⟩ := RSl.form hl
  obtain ⟨a1, c1, rfl, hlen1⟩ := RSl.form ht
  obtain ⟨a2, c2, rfl, hlen2⟩ := RSl.form hd
  have HL := Lib.hid hl
  have HT := Lib.hid ht
  have HD := Lib.hid hd
  have HR := Lib.hid hr
  have HN := Lib.hid hn
  clear hl ht hd hr hn
  go_enter Try.func20, Try.ntmps20
  go_wp2
  go_loopg [21] l.length (fun gh i wr => ∃ (k : Nat) (S : List Int), gh + k = l.length ∧ i = I k ∧ Below w.heap.size w wr ∧ SetAt wr w.heap.size (S.map I) ∧ ∀ p, p ∈ S ↔ p ∈ hadL (l.take k) ts ds)
  case atStart => exact ⟨0, [], rfl, rfl, below_a1 _ _, setAt_new w, fun p => by simp [hadL]⟩
  case round =>
    obtain ⟨k, S, hg, rfl, hb, hs, hS⟩ := hrel
    obtain ⟨wo, rfl⟩ : ∃ wo, wo = wr := ⟨_, rfl⟩
    have HB := Lib.hid hb
    have HS := Lib.hid hs
    have HSS := Lib.hid hS
    clear hb hs hS
    by_cases hlt : k < l.length
    · obtain ⟨b, o, c, he, hc, hi⟩ := RInts.at (HL.out.below HB.out) hlt
      obtain ⟨rfl, rfl⟩ : a0 = some ⟨b, o, none⟩ ∧ c0 = c := by simpa using he
      clear he
      have hrk := HR.out l[k] (List.getElem_mem hlt)
      obtain ⟨y, hy⟩ : ∃ y : Nat, l[k] = (y : Int) := ⟨l[k].toNat, by omega⟩
      rw [hy] at hc hrk
      have hyt : y < ts.length := by omega
      have hyd : y < ds.length := by have := HN.out; omega
      have hy1 : (y : Int) < (ds.length : Int) := by omega
      have hy2 : (y : Int) < (ts.length : Int) := by omega
      obtain ⟨b1, o1, c1', he1, hc1, hi1⟩ := RInts.at (HT.out.below HB.out) hyt
      obtain ⟨rfl, rfl⟩ : a1 = some ⟨b1, o1, none⟩ ∧ c1 = c1' := by simpa using he1
      obtain ⟨b2, o2, c2', C, he2, hC, hC2⟩ := RSl.at HD.out hyd
      obtain ⟨rfl, rfl⟩ : a2 = some ⟨b2, o2, none⟩ ∧ c2 = c2' := by simpa using he2
      have hc2 := hC 0 (by decide)
      rw [show C 0 = _ from hC2, ← HB.out.cell (p := ⟨b2, o2 + y * 1 + 0, none⟩) (World.block_lt_of_cell? w _ (hC 0 (by decide)))] at hc2
      simp only [Nat.mul_one, Nat.add_zero] at hc2
      have hstep : hadL (l.take (k + 1)) ts ds = hadL (l.take k) ts ds ++ (if ds[y] = true then [ts[y]] else []) := by
        unfold hadL
        rw [List.take_add_one, List.getElem?_eq_getElem hlt, List.filterMap_append]
        congr 1
        simp only [Option.toList_some, List.filterMap_cons, List.filterMap_nil, hy, Int.toNat_natCast]
        rw [List.getElem?_eq_getElem hyd, List.getElem?_eq_getElem hyt]
        cases ds[y] <;> simp
      have HST := Lib.hid hstep
      have HY := Lib.hid hy
      clear hstep hy he1 he2 hC hC2
      cases hdy : ds[y]
      · rw [hdy] at hc2
        have HDY := Lib.hid hdy
        clear hdy
        go_wp2
        go_roundg (l.length - (k + 1))
        case measure => omega
        case rel =>
          refine ⟨k + 1, S, by omega, by go_num, HB.out, HS.out, fun p => ?_⟩
          rw [HST.out, HDY.out, HSS.out p]; simp
      · rw [hdy] at hc2
        have HDY := Lib.hid hdy
        clear hdy
        go_wp2_with (first
          | (at_mapUpdate; refine wpList_putS keyInt Try.underlying77 rfl _ _ _ rfl w.heap.size _ ts[y] rfl rfl rfl HS.out ?_; intro w2 hs2 hg2 hz2; have HS2 := Lib.hid hs2; have HG2 := Lib.hid hg2; have HZ2 := Lib.hid hz2; clear hs2 hg2 hz2))
        go_roundg (l.length - (k + 1))
        case measure => omega
        case rel =>
          refine ⟨k + 1, _, by omega, by go_num, HB.out.grown HG2.out HB.out.size (fun r e => by cases e; exact Nat.le_refl _), HS2.out, fun p => ?_⟩
          rw [HST.out, HDY.out, mem_insL, HSS.out p]; simp [or_comm]
    · have hkl : l.take k = l := List.take_of_length_le (by omega)
      rw [hkl] at HSS
      have hmS : ∀ p : Int, p ∈ S → -(B : Int) ≤ p := fun p hp => hlo p ((HSS.out p).1 hp)
      have HMS := Lib.hid hmS
      clear hmS
      go_wp2
      go_loopg [37] reg (fun gh i wr => ∃ q : Nat, gh + q = reg ∧ i = I q ∧ Below w.heap.size w wr ∧ SetAt wr w.heap.size (S.map I))
      case atStart => exact ⟨0, rfl, rfl, HB.out, HS.out⟩
      case round =>
        obtain ⟨q, hq, rfl, hb2, hs2⟩ := hrel
        obtain ⟨wx, rfl⟩ : ∃ wx, wx = wr := ⟨_, rfl⟩
        have HB2 := Lib.hid hb2
        have HS2 := Lib.hid hs2
        clear hb2 hs2
        by_cases hlt2 : q < reg
        · by_cases hqS : (q : Int) ∈ S
          all_goals
            have HQ := Lib.hid hqS
            clear hqS
            go_wp2_with (first
              | (at_lookup; refine wpList_lookS keyInt Try.underlying77 rfl _ _ rfl w.heap.size S (q : Int) rfl rfl HS2.out ?_; first | rw [decide_eq_true HQ.out] | rw [decide_eq_false HQ.out]))
          · go_roundg (reg - (q + 1))
            case measure => omega
            case rel => exact ⟨q + 1, by omega, by go_num, HB2.out.alloc HB2.out.size _, HS2.out.ext (below_a1 _ _)⟩
          · go_ret
            exact ⟨q, rfl, fun h => HQ.out ((HSS.out _).2 h), by omega, by omega, HB2.out.alloc HB2.out.size _⟩
        · go_wp2
          go_loopg [15] (B + 1) (fun gh i wr => ∃ j : Nat, gh + j = B + 1 ∧ i = I (-1 - (j : Int)) ∧ Below w.heap.size w wr ∧ SetAt wr w.heap.size (S.map I) ∧ (j = 0 ∨ (-(j : Int)) ∈ S))
          case atStart => exact ⟨0, rfl, rfl, HB2.out, HS2.out, .inl rfl⟩
          case round =>
            obtain ⟨j, hj, rfl, hb3, hs3, hin⟩ := hrel
            obtain ⟨wy, rfl⟩ : ∃ wy, wy = wr := ⟨_, rfl⟩
            have HB3 := Lib.hid hb3
            have HS3 := Lib.hid hs3
            clear hb3 hs3
            have hjB : j ≤ B := by
              rcases hin with h | h
              · omega
              · have := HMS.out _ h; omega
            clear hin
            by_cases hqS : (-1 - (j : Int)) ∈ S
            all_goals
              have HQ := Lib.hid hqS
              clear hqS
              go_wp2_with (first
                | (at_lookup; refine wpList_lookS keyInt Try.underlying77 rfl _ _ rfl w.heap.size S (-1 - (j : Int)) rfl rfl HS3.out ?_; first | rw [decide_eq_true HQ.out] | rw [decide_eq_false HQ.out]))
            · have hjB' : j + 1 ≤ B := by have := HMS.out _ HQ.out; omega
              go_roundg (B + 1 - (j + 1))
              case measure => omega
              case rel =>
                refine ⟨j + 1, by omega, by go_num, HB3.out.alloc HB3.out.size _, HS3.out.ext (below_a1 _ _), .inr ?_⟩
                have := HQ.out
                rwa [show -1 - (j : Int) = -((j + 1 : Nat) : Int) by omega] at this
            · go_ret
              exact ⟨-1 - (j : Int), rfl, fun h => HQ.out ((HSS.out _).2 h), by omega, by omega, HB3.out.alloc HB3.out.size _⟩

end Go.Proofs.Ytdlcpmjhngfgkaa
