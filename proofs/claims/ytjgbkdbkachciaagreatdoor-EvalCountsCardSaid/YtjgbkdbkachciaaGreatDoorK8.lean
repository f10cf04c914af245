import Derived.Test.YtjgbkdbkachciaaGreatDoorK7
namespace Go.Proofs.YtjgbkdbkachciaaGreatDoor
open Go.RowKit Go.Shelf

theorem nc_arrs : ncP.arrays = [] := by kernel_rfl
def ncR (k d : Nat) : LR := if d ≤ 48 then ⟨1, d, [(tri k : Int)], 2 + (1 + (11 * k + 3)) + 2 + 3 + (11 * d + 6)⟩ else ⟨4, 0, [(tri k : Int)], 2 + (1 + (11 * k + 3)) + 2 + 3 + 490⟩
theorem nc_run (k d : Nat) (hk : k ≤ 100) (hd : d ≤ 100) : runM ncP 200001 [(k : Int), (d : Int)] 100000 = ncR k d := by
  have htr := tri_le k hk
  unfold runM
  rw [nc_arrs]
  obtain ⟨J, hJ⟩ : ∃ J, J = 200001 - 400 := ⟨_, rfl⟩
  have hJ2 : 200001 = J + 400 := by omega
  rw [hJ2]
  clear hJ2 hJ
  unfold callM
  rw [show ([109, 97, 105, 110] : Str) = wMain from rfl, nc_m]
  obtain ⟨c, hc⟩ : ∃ c : CSt, c = ⟨vars0 ncM [], 0⟩ := ⟨_, rfl⟩
  obtain ⟨s, hs⟩ : ∃ s : ESt, s = ⟨[(k : Int), (d : Int)], [], [], 0⟩ := ⟨_, rfl⟩
  have hss : s.steps = 0 := by rw [hs]
  have hsi : (tk s 1).inp = [(k : Int), (d : Int)] := by rw [hs]; rfl
  have hso : s.out = [] := by rw [hs]
  show (match (match blockM ((mach ncP 100000 (J + 400)).stmt (0 + 1)) ncM.body ⟨vars0 ncM [], 0⟩ ⟨[(k : Int), (d : Int)], [], [], 0⟩ with
    | .stop a b s => .stop a b s
    | .ok q s => .ok q.2.value s : Res Int) with
  | .stop a b s => (⟨a, b, s.out, s.steps⟩ : LR)
  | .ok n s => ⟨1, n, s.out, s.steps⟩) = ncR k d
  rw [← hc, ← hs]
  obtain ⟨s1, hs1⟩ : ∃ s1 : ESt, s1 = { tk s 2 with inp := [(d : Int)] } := ⟨_, rfl⟩
  have h1s : s1.steps = 2 := by rw [hs1]; show s.steps + 2 = 2; omega
  obtain ⟨c1, hc1⟩ : ∃ c1 : CSt, c1 = { c with vars := upd c.vars xV (k : Int) } := ⟨_, rfl⟩
  have hb1 : (mach ncP 100000 (J + 400)).stmt (0 + 1) c (.mk 1 xV [.mk 7 0 0 [] []] [] []) s = .ok (0, c1) s1 := by
    rw [hc1, hs1]
    exact st_set (by omega) (ex_read (by simp; omega) hsi)
  obtain ⟨c2, hv2, hl⟩ := loop_k k (J + 391 - k) (0 + 1) c1 (tk s1 1) 0 (by rw [hc1]; rfl) (by rw [hc1, hc]; rfl) (by omega) (by omega) (by simp; omega)
  rw [show k + (J + 391 - k) + 8 = J + 399 by omega, tk_tk] at hl
  have hb2 : (mach ncP 100000 (J + 400)).stmt (0 + 1) c1 ncL s1 = .ok (0, c2) (tk s1 (1 + (11 * k + 3))) := (st_while (by omega)).trans hl
  obtain ⟨s2, hs2⟩ : ∃ s2 : ESt, s2 = tk s1 (1 + (11 * k + 3)) := ⟨_, rfl⟩
  have h2s : s2.steps = 2 + (1 + (11 * k + 3)) := by rw [hs2]; simp [h1s]
  have h2o : s2.out = [] := by rw [hs2, hs1]; exact hso
  have h2i : s2.inp = [(d : Int)] := by rw [hs2, hs1]; rfl
  rw [← hs2] at hb2
  obtain ⟨s3, hs3⟩ : ∃ s3 : ESt, s3 = { tk s2 2 with out := [(tri k : Int)] } := ⟨_, rfl⟩
  have hb3 : (mach ncP 100000 (J + 400)).stmt (0 + 1) c2 (.mk 8 [] [vE sV1] [] []) s2 = .ok (0, c2) s3 := by
    refine (st_print (a := (tri k : Int)) (s1 := tk s2 2) (by omega) (by rw [ex_var (by simp; omega), tk_tk, hv2, Nat.zero_add])).trans ?_
    rw [hs3, show (tk s2 2).out = [] from h2o]
    rfl
  have h3s : s3.steps = 2 + (1 + (11 * k + 3)) + 2 := by rw [hs3]; show s2.steps + 2 = _; omega
  have h3o : s3.out = [(tri k : Int)] := by rw [hs3]
  have h3i : (tk (tk (tk s3 1) 1) 1).inp = [(d : Int)] := by rw [hs3]; exact h2i
  obtain ⟨s4, hs4⟩ : ∃ s4 : ESt, s4 = { tk s3 3 with inp := [] } := ⟨_, rfl⟩
  have h4s : s4.steps = 2 + (1 + (11 * k + 3)) + 2 + 3 := by rw [hs4]; show s3.steps + 3 = _; omega
  have h4o : s4.out = [(tri k : Int)] := by rw [hs4]; exact h3o
  have hrd : (mach ncP 100000 (J + 398)).expr (0 + 1) c2.vars (.mk 7 0 0 [] []) (tk (tk s3 1) 1) = .ok (d : Int) s4 := by
    rw [hs4]
    exact ex_read (by simp; omega) h3i
  unfold ncR
  by_cases hdd : d ≤ 48
  · rw [if_pos hdd]
    have hf := rec_f d 1 (J + 390 - 3 * d) s4 (by omega) (by omega)
    rw [show 3 * d + (J + 390 - 3 * d) + 8 = J + 398 by omega] at hf
    have hb4 : (mach ncP 100000 (J + 400)).stmt (0 + 1) c2 (.mk 7 [] [.mk 5 0 0 fV1 [.mk 7 0 0 [] []]] [] []) s3 = .ok (3, { c2 with value := (d : Int) }) (tk s4 (11 * d + 6)) :=
      st_ret (by omega) ((ex_call (by simp; omega) hrd (by omega)).trans hf)
    rw [bl_cons hb1, bl_cons hb2, bl_cons hb3, bl_ret hb4]
    show (⟨1, (d : Int), s4.out, s4.steps + (11 * d + 6)⟩ : LR) = _
    rw [h4o, h4s]
  · rw [if_neg hdd]
    have hf := rec_deep 48 d 1 (J + 246) s4 (by omega) (by omega) (by omega) (by omega)
    rw [show 3 * 48 + (J + 246) + 8 = J + 398 by omega] at hf
    have hb4 : (mach ncP 100000 (J + 400)).stmt (0 + 1) c2 (.mk 7 [] [.mk 5 0 0 fV1 [.mk 7 0 0 [] []]] [] []) s3 = .stop 4 0 (tk s4 (10 * (48 + 1))) :=
      st_ret_stop (by omega) ((ex_call (by simp; omega) hrd (by omega)).trans hf)
    rw [bl_cons hb1, bl_cons hb2, bl_cons hb3, bl_stop hb4]
    show (⟨4, 0, s4.out, s4.steps + (10 * (48 + 1))⟩ : LR) = _
    rw [h4o, h4s]
theorem tri_half : ∀ k : Nat, k ≤ 100 → ((k : Int) * (k + 1)).tdiv 2 = (tri k : Int) := by decide +kernel
end Go.Proofs.YtjgbkdbkachciaaGreatDoor
