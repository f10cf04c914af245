import Derived.Test.YtjgbkdbkachciaaGreatDoorR3
import Derived.Deep.CutBlock
import Derived.Lib.Strings
namespace Go.Proofs.YtjgbkdbkachciaaGreatDoor
open Go.RowKit Go.Shelf
attribute [local go_sem] Oper.semAt_some

theorem results_ct {P : Program} {fn : Func} {p u : Tmp} {ty : TypeId} (h : fn.results = #[.cell p ty, .tmp u]) (tmps : Array Value) (w : World) (g : Nat) (t : TypeId) (cs : Array Value) (fr : Nat × Nat) (d : TypeDesc)
    (hp : tmps.getD p undef = .pointer (some ⟨g, 0, none⟩)) (hg : w.heap[g]? = some (.cells cs t fr))
    (hu : P.underlying ty = some d) (hd : (match d with | .struct _ | .array _ _ => true | _ => false) = true) (hi : (P.info? ty).map (·.size) = some cs.size) :
    (results fn tmps).run P w = .ok (.tuple #[.agg cs, tmps.getD u undef]) w := by
  have hp' : tmps[p]?.getD undef = .pointer (some ⟨g, 0, none⟩) := by simpa using hp
  simp [results, h, hp', asAddr, run_loadVar_row w g t ty cs fr d hg hu hd hi]

/-- a token and whether it is one -/
def RetTok (t : Tok) (w : World) (e : Ending) (w' : World) : Prop := e = .returned (.tuple #[TokV t, .bool true]) ∧ Below w.heap.size w w'

theorem ext_take (l : Str) (n : Nat) : (⟨l.toArray⟩ : ByteArray).extract 0 n = ⟨(l.take n).toArray⟩ := by
  rw [Lib.extract_eq]; simp
theorem ext_drop (l : Str) (n : Nat) : (⟨l.toArray⟩ : ByteArray).extract n l.length = ⟨(l.drop n).toArray⟩ := by
  rw [Lib.extract_eq]
  simp only []
  rw [List.take_of_length_le (by simp)]

theorem signF_cases {l x : Str} (h : signF l = some x) (hl : l ≠ []) : (2 ≤ l.length ∧ l.take 2 ∈ signsL ∧ x = l.take 2) ∨ (2 ≤ l.length ∧ l.take 2 ∉ signsL ∧ l.take 1 ∈ signsL ∧ x = l.take 1) ∨ (l.length = 1 ∧ l.take 1 ∈ signsL ∧ x = l.take 1) := by
  unfold signF at h
  have hp : 0 < l.length := List.length_pos_iff.2 hl
  by_cases h1 : 2 ≤ l.length
  · split at h
    · next h2 => cases h; exact .inl ⟨h1, h2, rfl⟩
    · next h2 =>
      split at h
      · next h3 => cases h; exact .inr (.inl ⟨h1, h2, h3, rfl⟩)
      · cases h
  · have hl1 : l.length = 1 := by omega
    have e2 : l.take 2 = l := List.take_of_length_le (by omega)
    have e1 : l.take 1 = l := List.take_of_length_le (by omega)
    rw [e1, e2] at h
    split at h
    · next h2 => cases h; exact .inr (.inr ⟨hl1, by rw [e1]; exact h2, e1.symm⟩)
    · cases h

set_option maxRecDepth 100000 in
set_option maxHeartbeats 8000000 in
theorem sign_yes (l x : Str) (hl : l ≠ []) (hx : signF l = some x) (w : World) : Calls Tryz.prog 175 #[S l] w (RetTok ⟨4, x, 0, 0⟩ w) := by
  have hc := signF_cases hx hl
  have HC := Lib.hid hc
  have hpos : 0 < l.length := List.length_pos_iff.2 hl
  obtain ⟨n0, hn0⟩ : ∃ n0, n0 = min 2 l.length := ⟨_, rfl⟩
  have hn1 : 1 ≤ n0 := by omega
  have hn2 : n0 ≤ 2 := by omega
  have hst : n0 ≤ l.length ∧ ((l.take n0 ∈ signsL ∧ x = l.take n0) ∨ (n0 = 2 ∧ l.take 2 ∉ signsL ∧ l.take 1 ∈ signsL ∧ x = l.take 1)) := by
    refine ⟨by omega, ?_⟩
    rcases hc with ⟨h1, h2, h3⟩ | ⟨h1, h2, h3, h4⟩ | ⟨h1, h2, h3⟩
    · obtain rfl : n0 = 2 := by omega
      exact .inl ⟨h2, h3⟩
    · obtain rfl : n0 = 2 := by omega
      exact .inr ⟨rfl, h2, h3, h4⟩
    · obtain rfl : n0 = 1 := by omega
      exact .inl ⟨h2, h3⟩
  obtain ⟨hn3, hst⟩ := hst
  have HST := Lib.hid hst
  have HN0 := Lib.hid hn0
  clear hc hn0 hx hl hst
  go_enter Tryz.func175, Tryz.ntmps175
  go_upto_region 1 with (fail)
  go_cut [4] (fun s4 wc => s4 = I n0 ∧ wc = w.alloc (.cells #[I 0, S [], I 0, I 0] 119))
  case first =>
    rcases (by omega : (l.length : Int) < 2 ∨ 2 ≤ (l.length : Int)) with h | h
    all_goals
      go_wp2
      go_meet
      exact ⟨by first | (congr 1; have := HN0.out; omega), rfl⟩
  case rest =>
  obtain ⟨rfl, rfl⟩ := hcut
  go_wp2
  go_loopg [4] n0 (fun gh v wr => ∃ n : Nat, v = I n ∧ gh = n ∧ 1 ≤ n ∧ n ≤ 2 ∧ n ≤ l.length ∧ wr = w.alloc (.cells #[I 0, S [], I 0, I 0] 119) ∧ Hid ((l.take n ∈ signsL ∧ x = l.take n) ∨ (n = 2 ∧ l.take 2 ∉ signsL ∧ l.take 1 ∈ signsL ∧ x = l.take 1)))
  case atStart => exact ⟨n0, rfl, rfl, hn1, hn2, hn3, rfl, HST⟩
  case round =>
    obtain ⟨n, rfl, hg, hn1, hn2, hnl, rfl, HX⟩ := hrel
    have hnz : (0 : Int) < (n : Int) := by omega
    have hnlz : (n : Int) ≤ (l.length : Int) := by omega
    obtain ⟨m, hm⟩ : ∃ m, m = l.take n := ⟨_, rfl⟩
    have hmv : (⟨List.toArray l⟩ : ByteArray).extract 0 n = ⟨m.toArray⟩ := by rw [hm]; exact ext_take l n
    have HM := Lib.hid hm
    by_cases hmem : m ∈ signsL
    · have hxm : x = m := by
        rcases HX.out with ⟨_, h⟩ | ⟨h1, h2, _⟩
        · rw [h, HM.out]
        · subst h1; rw [HM.out] at hmem; exact absurd hmem h2
      have HXM := Lib.hid hxm
      clear hxm hm HX HST HN0
      simp only [signsL, List.mem_cons, List.not_mem_nil, or_false] at hmem
      rcases hmem with rfl | rfl | rfl | rfl | rfl | rfl | rfl | rfl | rfl | rfl | rfl | rfl | rfl | rfl | rfl | rfl | rfl | rfl | rfl | rfl | rfl | rfl | rfl | rfl | rfl | rfl | rfl
      all_goals
        as_aux_lemma =>
        go_wp2
        refine bodyPost_ret (results_ct rfl _ _ w.heap.size 119 _ (0, 0) _ rfl (heap_new _ _) Tryz.underlying119 rfl (by kernel_rfl)) rfl ?_
        exact ⟨by rw [HXM.out]; rfl, below_a1 _ _⟩
    · obtain ⟨hn2', hn3', hn4', hn5'⟩ : n = 2 ∧ l.take 2 ∉ signsL ∧ l.take 1 ∈ signsL ∧ x = l.take 1 := by
        rcases HX.out with ⟨h, _⟩ | h
        · rw [← HM.out] at h; exact absurd h hmem
        · exact h
      have H34 := Lib.hid (And.intro hn4' hn5')
      have h0 : (m == [61, 61]) = false := beq_eq_false_iff_ne.2 (fun e => hmem (by rw [e]; decide))
      have h1 : (m == [33, 61]) = false := beq_eq_false_iff_ne.2 (fun e => hmem (by rw [e]; decide))
      have h2 : (m == [60, 61]) = false := beq_eq_false_iff_ne.2 (fun e => hmem (by rw [e]; decide))
      have h3 : (m == [62, 61]) = false := beq_eq_false_iff_ne.2 (fun e => hmem (by rw [e]; decide))
      have h4 : (m == [60, 60]) = false := beq_eq_false_iff_ne.2 (fun e => hmem (by rw [e]; decide))
      have h5 : (m == [62, 62]) = false := beq_eq_false_iff_ne.2 (fun e => hmem (by rw [e]; decide))
      have h6 : (m == [40]) = false := beq_eq_false_iff_ne.2 (fun e => hmem (by rw [e]; decide))
      have h7 : (m == [41]) = false := beq_eq_false_iff_ne.2 (fun e => hmem (by rw [e]; decide))
      have h8 : (m == [123]) = false := beq_eq_false_iff_ne.2 (fun e => hmem (by rw [e]; decide))
      have h9 : (m == [125]) = false := beq_eq_false_iff_ne.2 (fun e => hmem (by rw [e]; decide))
      have h10 : (m == [91]) = false := beq_eq_false_iff_ne.2 (fun e => hmem (by rw [e]; decide))
      have h11 : (m == [93]) = false := beq_eq_false_iff_ne.2 (fun e => hmem (by rw [e]; decide))
      have h12 : (m == [44]) = false := beq_eq_false_iff_ne.2 (fun e => hmem (by rw [e]; decide))
      have h13 : (m == [59]) = false := beq_eq_false_iff_ne.2 (fun e => hmem (by rw [e]; decide))
      have h14 : (m == [61]) = false := beq_eq_false_iff_ne.2 (fun e => hmem (by rw [e]; decide))
      have h15 : (m == [124]) = false := beq_eq_false_iff_ne.2 (fun e => hmem (by rw [e]; decide))
      have h16 : (m == [94]) = false := beq_eq_false_iff_ne.2 (fun e => hmem (by rw [e]; decide))
      have h17 : (m == [38]) = false := beq_eq_false_iff_ne.2 (fun e => hmem (by rw [e]; decide))
      have h18 : (m == [43]) = false := beq_eq_false_iff_ne.2 (fun e => hmem (by rw [e]; decide))
      have h19 : (m == [45]) = false := beq_eq_false_iff_ne.2 (fun e => hmem (by rw [e]; decide))
      have h20 : (m == [42]) = false := beq_eq_false_iff_ne.2 (fun e => hmem (by rw [e]; decide))
      have h21 : (m == [47]) = false := beq_eq_false_iff_ne.2 (fun e => hmem (by rw [e]; decide))
      have h22 : (m == [37]) = false := beq_eq_false_iff_ne.2 (fun e => hmem (by rw [e]; decide))
      have h23 : (m == [33]) = false := beq_eq_false_iff_ne.2 (fun e => hmem (by rw [e]; decide))
      have h24 : (m == [126]) = false := beq_eq_false_iff_ne.2 (fun e => hmem (by rw [e]; decide))
      have h25 : (m == [60]) = false := beq_eq_false_iff_ne.2 (fun e => hmem (by rw [e]; decide))
      have h26 : (m == [62]) = false := beq_eq_false_iff_ne.2 (fun e => hmem (by rw [e]; decide))
      subst hn2'
      clear hmem hn3' hn4' hn5' hm
      go_wp2
      go_roundg 1
      case measure => omega
      case rel => exact ⟨1, rfl, rfl, by omega, by omega, by omega, rfl, Lib.hid (.inl H34.out)⟩
end Go.Proofs.YtjgbkdbkachciaaGreatDoor
