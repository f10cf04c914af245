import Derived.Test.YtjgbkdbkachciaaGreatDoorK6
namespace Go.Proofs.YtjgbkdbkachciaaGreatDoor
open Go.RowKit Go.Shelf

/-- .. and when it goes too deep -/
theorem rec_deep : ∀ (j n d K : Nat) (s : ESt), d + j = 49 → 50 ≤ n + d → s.steps + 10 * (j + 1) ≤ 99999 → n ≤ 1000 → callM ncP (mach ncP 100000 (3 * j + K + 8)).stmt d fV1 [(n : Int)] s = .stop 4 0 (tk s (10 * (j + 1))) := by
  intro j
  induction j with
  | zero =>
    intro n d K s hj hn hs hn2
    obtain ⟨m, rfl⟩ : ∃ m, n = m + 1 := ⟨n - 1, by omega⟩
    rw [show 3 * 0 + K + 8 = (K + 3) + 5 by omega]
    obtain ⟨J, hJ⟩ : ∃ J, J = K + 3 := ⟨_, rfl⟩
    rw [← hJ]
    unfold callM
    rw [nc_f]
    obtain ⟨c, hc⟩ : ∃ c : CSt, c = ⟨vars0 ncF [((m + 1 : Nat) : Int)], 0⟩ := ⟨_, rfl⟩
    have hv : c.vars nV = ((m + 1 : Nat) : Int) := by rw [hc]; rfl
    rw [← hc]
    have h1 : (mach ncP 100000 (J + 5)).stmt (d + 1) c (.mk 3 [] [bE 15 (vE nV) (nE 0)] [.mk 7 [] [nE 0] [] []] []) s = .ok (0, c) (tk s 4) := by
      refine (st_if (a := 0) (s1 := tk s 4) (by omega) (ex_bin (a := ((m + 1 : Nat) : Int)) (b := 0) (s1 := tk s 3) (by simp; omega) (by rw [ex_var (by simp; omega), tk_tk, tk_tk, hv]) (by rw [ex_num (by simp; omega), tk_tk]) (by rw [two_eq, if_neg (by omega)]))).trans ?_
      rw [if_pos rfl]
      rfl
    have h2 : (mach ncP 100000 (J + 5)).stmt (d + 1) c (.mk 7 [] [bE 1 (.mk 5 0 0 fV1 [bE 2 (vE nV) (nE 1)]) (nE 1)] [] []) (tk s 4) = .stop 4 0 (tk s 10) := by
      refine st_ret_stop (by simp; omega) (ex_bin_stop (by simp; omega) (ex_deep (a := (m : Int)) (s1 := tk s 10) (by simp; omega) ?_ (by omega)))
      refine ex_bin (a := ((m + 1 : Nat) : Int)) (b := 1) (s1 := tk s 9) (by simp; omega) (by rw [ex_var (by simp; omega), hv]; simp only [tk_tk]) (by rw [ex_num (by simp; omega), tk_tk]) ?_
      rw [two_sub _ _ (by omega)]
      exact congrArg some (by omega)
    rw [bl_cons h1, bl_stop h2]
  | succ j ih0 =>
    intro n d K s hj hn hs hn2
    obtain ⟨m, rfl⟩ : ∃ m, n = m + 1 := ⟨n - 1, by omega⟩
    obtain ⟨J, hJ⟩ : ∃ J, J = 3 * j + K + 6 := ⟨_, rfl⟩
    rw [show 3 * (j + 1) + K + 8 = J + 5 by omega]
    unfold callM
    rw [nc_f]
    obtain ⟨c, hc⟩ : ∃ c : CSt, c = ⟨vars0 ncF [((m + 1 : Nat) : Int)], 0⟩ := ⟨_, rfl⟩
    have hv : c.vars nV = ((m + 1 : Nat) : Int) := by rw [hc]; rfl
    rw [← hc]
    have h1 : (mach ncP 100000 (J + 5)).stmt (d + 1) c (.mk 3 [] [bE 15 (vE nV) (nE 0)] [.mk 7 [] [nE 0] [] []] []) s = .ok (0, c) (tk s 4) := by
      refine (st_if (a := 0) (s1 := tk s 4) (by omega) (ex_bin (a := ((m + 1 : Nat) : Int)) (b := 0) (s1 := tk s 3) (by simp; omega) (by rw [ex_var (by simp; omega), tk_tk, tk_tk, hv]) (by rw [ex_num (by simp; omega), tk_tk]) (by rw [two_eq, if_neg (by omega)]))).trans ?_
      rw [if_pos rfl]
      rfl
    have ih := ih0 m (d + 1) K (tk s 10) (by omega) (by omega) (by simp; omega) (by omega)
    rw [tk_tk, show 3 * j + K + 8 = J + 2 by omega] at ih
    have h2 : (mach ncP 100000 (J + 5)).stmt (d + 1) c (.mk 7 [] [bE 1 (.mk 5 0 0 fV1 [bE 2 (vE nV) (nE 1)]) (nE 1)] [] []) (tk s 4) = .stop 4 0 (tk s (10 * (j + 1 + 1))) := by
      rw [show 10 * (j + 1 + 1) = 10 + 10 * (j + 1) by omega]
      refine st_ret_stop (by simp; omega) (ex_bin_stop (by simp; omega) ((ex_call (a := (m : Int)) (s1 := tk s 10) (by simp; omega) ?_ (by omega)).trans ih))
      refine ex_bin (a := ((m + 1 : Nat) : Int)) (b := 1) (s1 := tk s 9) (by simp; omega) (by rw [ex_var (by simp; omega), hv]; simp only [tk_tk]) (by rw [ex_num (by simp; omega), tk_tk]) ?_
      rw [two_sub _ _ (by omega)]
      exact congrArg some (by omega)
    rw [bl_cons h1, bl_stop h2]

def tri : Nat → Nat
  | 0 => 0
  | n + 1 => (n + 1) + tri n
theorem tri_le : ∀ n : Nat, n ≤ 100 → tri n ≤ 5050 := by decide +kernel
/-- what the loop does -/
theorem loop_k : ∀ (k : Nat) (K d : Nat) (c : CSt) (s : ESt) (t : Nat), c.vars xV = (k : Int) → c.vars sV1 = (t : Int) → k ≤ 1000 → t + tri k ≤ 20000 → s.steps + 11 * k + 3 ≤ 99999 →
    ∃ c' : CSt, c'.vars sV1 = ((t + tri k : Nat) : Int) ∧ (mach ncP 100000 (k + K + 8)).loop d c ncL s = .ok (0, c') (tk s (11 * k + 3))
  | 0, K, d, c, s, t, hx, ht, h1, h2, hs => by
    refine ⟨c, by rw [ht]; rfl, ?_⟩
    rw [show 0 + K + 8 = (K + 5) + 3 by omega]
    exact lp_end (ex_bin (a := 0) (b := 0) (s1 := tk s 2) (by omega) (by rw [ex_var (by simp; omega), tk_tk, hx]; rfl) (by rw [ex_num (by simp; omega), tk_tk]) (by rw [two_gt]; rfl))
  | k + 1, K, d, c, s, t, hx, ht, h1, h2, hs => by
    have htri : tri (k + 1) = (k + 1) + tri k := rfl
    obtain ⟨c1, hc1⟩ : ∃ c1 : CSt, c1 = { c with vars := upd c.vars sV1 ((t : Int) + ((k + 1 : Nat) : Int)) } := ⟨_, rfl⟩
    obtain ⟨c2, hc2⟩ : ∃ c2 : CSt, c2 = { c1 with vars := upd c1.vars xV (k : Int) } := ⟨_, rfl⟩
    have hx1 : c1.vars xV = ((k + 1 : Nat) : Int) := by rw [hc1]; exact hx
    have hx2 : c2.vars xV = (k : Int) := by rw [hc2]; rfl
    have ht2 : c2.vars sV1 = ((t + (k + 1) : Nat) : Int) := by rw [hc2, hc1]; show (t : Int) + ((k + 1 : Nat) : Int) = _; omega
    obtain ⟨c', h3, h4⟩ := loop_k k K d c2 (tk s 11) (t + (k + 1)) hx2 ht2 (by omega) (by omega) (by simp; omega)
    refine ⟨c', by rw [h3]; congr 1; omega, ?_⟩
    obtain ⟨J, hJ⟩ : ∃ J, J = k + K + 5 := ⟨_, rfl⟩
    rw [show k + K + 8 = J + 3 by omega] at h4
    rw [show k + 1 + K + 8 = J + 4 by omega]
    have hb1 : (mach ncP 100000 (J + 3)).stmt d c (.mk 1 sV1 [bE 1 (vE sV1) (vE xV)] [] []) (tk s 3) = .ok (0, c1) (tk s 7) := by
      rw [hc1]
      exact st_set (by simp; omega) (ex_bin (a := (t : Int)) (b := ((k + 1 : Nat) : Int)) (s1 := tk s 6) (by simp; omega) (by rw [ex_var (by simp; omega), ht]; simp only [tk_tk]) (by rw [ex_var (by simp; omega), tk_tk, hx]) (by rw [two_add _ _ (by omega)]))
    have hb2 : (mach ncP 100000 (J + 3)).stmt d c1 (.mk 1 xV [bE 2 (vE xV) (nE 1)] [] []) (tk s 7) = .ok (0, c2) (tk s 11) := by
      rw [hc2]
      exact st_set (by simp; omega) (ex_bin (a := ((k + 1 : Nat) : Int)) (b := 1) (s1 := tk s 10) (by simp; omega) (by rw [ex_var (by simp; omega), hx1]; simp only [tk_tk]) (by rw [ex_num (by simp; omega), tk_tk]) (by rw [two_sub _ _ (by omega)]; exact congrArg some (by omega)))
    have hb : blockM ((mach ncP 100000 (J + 3)).stmt d) [.mk 1 sV1 [bE 1 (vE sV1) (vE xV)] [] [], .mk 1 xV [bE 2 (vE xV) (nE 1)] [] []] c (tk s 3) = .ok (0, c2) (tk s 11) := by
      rw [bl_cons hb1, bl_cons hb2]; rfl
    refine (lp_round (a := 1) (s1 := tk s 3) (ex_bin (a := ((k + 1 : Nat) : Int)) (b := 0) (s1 := tk s 2) (by omega) (by rw [ex_var (by simp; omega), tk_tk, hx]) (by rw [ex_num (by simp; omega), tk_tk]) (by rw [two_gt, if_pos (by omega)])) (by decide) hb).trans ?_
    rw [h4, tk_tk]
    congr 2
    omega
end Go.Proofs.YtjgbkdbkachciaaGreatDoor
