import Derived.Test.YtjgbkdbkachciaaGreatDoorK5
namespace Go.Proofs.YtjgbkdbkachciaaGreatDoor
open Go.RowKit Go.Shelf

abbrev nV : Str := [110]
abbrev xV : Str := [120]
abbrev sV1 : Str := [115]
abbrev fV1 : Str := [102]
abbrev nE (v : Int) : LE := .mk 1 0 v [] []
abbrev vE (x : Str) : LE := .mk 2 0 0 x []
abbrev bE (o : Int) (e f : LE) : LE := .mk 4 o 0 [] [e, f]
abbrev ncF : LF := ⟨fV1, [nV], [], [.mk 3 [] [bE 15 (vE nV) (nE 0)] [.mk 7 [] [nE 0] [] []] [], .mk 7 [] [bE 1 (.mk 5 0 0 fV1 [bE 2 (vE nV) (nE 1)]) (nE 1)] [] []]⟩
abbrev ncL : LS := .mk 4 [] [bE 13 (vE xV) (nE 0)] [.mk 1 sV1 [bE 1 (vE sV1) (vE xV)] [] [], .mk 1 xV [bE 2 (vE xV) (nE 1)] [] []] []
abbrev ncM : LF := ⟨wMain, [], [xV, sV1], [.mk 1 xV [.mk 7 0 0 [] []] [] [], ncL, .mk 8 [] [vE sV1] [] [], .mk 7 [] [.mk 5 0 0 fV1 [.mk 7 0 0 [] []]] [] []]⟩
theorem nc_f : funcAt ncP fV1 = ncF := by kernel_rfl
theorem nc_m : funcAt ncP wMain = ncM := by kernel_rfl
theorem two_eq (a b : Int) : twoI 15 a b = some (if a = b then 1 else 0) := by
  simp only [twoI, twoF, flagI]
  by_cases h : a = b <;> simp [h]
theorem two_gt (a b : Int) : twoI 13 a b = some (if b < a then 1 else 0) := by
  simp only [twoI, twoF, flagI]
  by_cases h : b < a <;> simp [h]
theorem wrap_small {a : Int} (h : -1000000 ≤ a ∧ a ≤ 1000000) : wrap64 a = a := by
  obtain ⟨h1, h2⟩ := h
  unfold wrap64
  omega
theorem two_add (a b : Int) (h : -1000000 ≤ a + b ∧ a + b ≤ 1000000) : twoI 1 a b = some (a + b) := by
  simp [twoI, twoF, wrap_small h]
theorem two_sub (a b : Int) (h : -1000000 ≤ a - b ∧ a - b ≤ 1000000) : twoI 2 a b = some (a - b) := by
  simp [twoI, twoF, wrap_small h]
/-- what f does, d deep -/
theorem rec_f : ∀ (n d K : Nat) (s : ESt), n + d ≤ 49 → s.steps + 11 * n + 6 ≤ 99999 → callM ncP (mach ncP 100000 (3 * n + K + 8)).stmt d fV1 [(n : Int)] s = .ok n (tk s (11 * n + 6))
  | 0, d, K, s, hd, hs => by
    unfold callM
    rw [nc_f, show 3 * 0 + K + 8 = K + 8 by omega]
    have h1 : (mach ncP 100000 (K + 8)).stmt (d + 1) ⟨vars0 ncF [((0 : Nat) : Int)], 0⟩ (.mk 3 [] [bE 15 (vE nV) (nE 0)] [.mk 7 [] [nE 0] [] []] []) s = .ok (3, ⟨vars0 ncF [((0 : Nat) : Int)], 0⟩) (tk s 6) := by
      refine (st_if (a := 1) (s1 := tk s 4) (by omega) (ex_bin (a := 0) (b := 0) (s1 := tk s 3) (by simp; omega) (by rw [ex_var (by simp; omega), tk_tk, tk_tk]; rfl) (by rw [ex_num (by simp; omega), tk_tk]) (by rw [two_eq]; rfl))).trans ?_
      rw [if_neg (by decide)]
      exact bl_ret (by rw [st_ret (a := 0) (s1 := tk s 6) (by simp; omega) (by rw [ex_num (by simp; omega), tk_tk, tk_tk])])
    rw [bl_ret h1]
    rfl
  | n + 1, d, K, s, hd, hs => by
    have hK : 3 * (n + 1) + K + 8 = (3 * n + K + 8) + 3 := by omega
    unfold callM
    rw [nc_f, hK]
    obtain ⟨c, hc⟩ : ∃ c : CSt, c = ⟨vars0 ncF [((n + 1 : Nat) : Int)], 0⟩ := ⟨_, rfl⟩
    have hv : c.vars nV = ((n + 1 : Nat) : Int) := by rw [hc]; rfl
    rw [← hc]
    have h1 : (mach ncP 100000 (3 * n + K + 8 + 3)).stmt (d + 1) c (.mk 3 [] [bE 15 (vE nV) (nE 0)] [.mk 7 [] [nE 0] [] []] []) s = .ok (0, c) (tk s 4) := by
      refine (st_if (a := 0) (s1 := tk s 4) (by omega) (ex_bin (a := ((n + 1 : Nat) : Int)) (b := 0) (s1 := tk s 3) (by simp; omega) (by rw [ex_var (by simp; omega), tk_tk, tk_tk, hv]) (by rw [ex_num (by simp; omega), tk_tk]) (by rw [two_eq, if_neg (by omega)]))).trans ?_
      rw [if_pos rfl]
      rfl
    obtain ⟨J, hJ⟩ : ∃ J, J = 3 * n + K + 6 := ⟨_, rfl⟩
    rw [show 3 * n + K + 8 + 3 = J + 5 by omega] at h1 ⊢
    have ih := rec_f n (d + 1) K (tk s 10) (by omega) (by simp; omega)
    rw [tk_tk] at ih
    rw [show 3 * n + K + 8 = J + 2 by omega] at ih
    have h2 : (mach ncP 100000 (J + 5)).stmt (d + 1) c (.mk 7 [] [bE 1 (.mk 5 0 0 fV1 [bE 2 (vE nV) (nE 1)]) (nE 1)] [] []) (tk s 4) = .ok (3, { c with value := ((n + 1 : Nat) : Int) }) (tk s (11 * (n + 1) + 6)) := by
      refine st_ret (by simp; omega) (ex_bin (a := (n : Int)) (b := 1) (s1 := tk s (10 + (11 * n + 6))) (by simp; omega) ?_ (by rw [ex_num (by simp; omega), tk_tk, show 10 + (11 * n + 6) + 1 = 11 * (n + 1) + 6 by omega]) (by rw [two_add _ _ (by omega)]; rfl))
      refine (ex_call (a := (n : Int)) (s1 := tk s 10) (by simp; omega) ?_ (by omega)).trans ih
      refine ex_bin (a := ((n + 1 : Nat) : Int)) (b := 1) (s1 := tk s 9) (by simp; omega) (by rw [ex_var (by simp; omega), hv]; simp only [tk_tk]) (by rw [ex_num (by simp; omega), tk_tk]) ?_
      rw [two_sub _ _ (by omega)]
      exact congrArg some (by omega)
    rw [bl_cons h1, bl_ret h2]
end Go.Proofs.YtjgbkdbkachciaaGreatDoor
