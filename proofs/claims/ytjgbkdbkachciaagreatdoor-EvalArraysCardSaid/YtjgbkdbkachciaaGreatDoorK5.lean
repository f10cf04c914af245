import Derived.Test.YtjgbkdbkachciaaGreatDoorK4
/-
  What the program of EvalCounts does.
-/
namespace Go.Proofs.YtjgbkdbkachciaaGreatDoor
open Go.RowKit Go.Shelf

def tk (s : ESt) (i : Nat) : ESt := { s with steps := s.steps + i }
theorem tk_tk (s : ESt) (i j : Nat) : tk (tk s i) j = tk s (i + j) := by simp [tk, Nat.add_assoc]
@[simp] theorem tk_steps (s : ESt) (i : Nat) : (tk s i).steps = s.steps + i := rfl
section
variable {p : LP} {most : Int} {K d : Nat} {vs : Vars} {s s1 s2 : ESt} {o n a b r st cd : Int} {nm : Str} {e f : LE} {c : CSt} {t el l : List LS}
theorem ex_num (h : (s.steps : Int) < most) : (mach p most (K + 1)).expr d vs (.mk 1 o n nm []) s = .ok n (tk s 1) := by
  simp [mach, exprM, show ¬ most ≤ (s.steps : Int) by omega, argsM, LE.args, LE.kind, LE.n, tk]
theorem ex_var (h : (s.steps : Int) < most) : (mach p most (K + 1)).expr d vs (.mk 2 o n nm []) s = .ok (vs nm) (tk s 1) := by
  simp [mach, exprM, show ¬ most ≤ (s.steps : Int) by omega, argsM, LE.args, LE.kind, LE.name, tk]
theorem ex_read {x : Int} {li : List Int} (h : (s.steps : Int) < most) (hi : s.inp = x :: li) : (mach p most (K + 1)).expr d vs (.mk 7 o n nm []) s = .ok x { tk s 1 with inp := li } := by
  simp [mach, exprM, show ¬ most ≤ (s.steps : Int) by omega, argsM, LE.args, LE.kind, tk, hi]
theorem ex_bin (h : (s.steps : Int) < most) (he : (mach p most K).expr d vs e (tk s 1) = .ok a s1) (hf : (mach p most K).expr d vs f s1 = .ok b s2) (ht : twoI o a b = some r) : (mach p most (K + 1)).expr d vs (.mk 4 o n nm [e, f]) s = .ok r s2 := by
  have he' : (mach p most K).expr d vs e { s with steps := s.steps + 1 } = .ok a s1 := he
  simp [mach, exprM, show ¬ most ≤ (s.steps : Int) by omega, argsM, LE.args, LE.kind, LE.op, he', hf, hd, hd2, ht]
theorem ex_bin_stop (h : (s.steps : Int) < most) (he : (mach p most K).expr d vs e (tk s 1) = .stop st cd s1) : (mach p most (K + 1)).expr d vs (.mk 4 o n nm [e, f]) s = .stop st cd s1 := by
  have he' : (mach p most K).expr d vs e { s with steps := s.steps + 1 } = .stop st cd s1 := he
  simp [mach, exprM, show ¬ most ≤ (s.steps : Int) by omega, argsM, LE.args, he']
theorem ex_call (h : (s.steps : Int) < most) (he : (mach p most K).expr d vs e (tk s 1) = .ok a s1) (hd : ¬ 50 ≤ d) : (mach p most (K + 1)).expr d vs (.mk 5 o n nm [e]) s = callM p (mach p most K).stmt d nm [a] s1 := by
  have he' : (mach p most K).expr d vs e { s with steps := s.steps + 1 } = .ok a s1 := he
  simp [mach, exprM, show ¬ most ≤ (s.steps : Int) by omega, argsM, LE.args, LE.kind, LE.name, he', hd]
theorem ex_deep (h : (s.steps : Int) < most) (he : (mach p most K).expr d vs e (tk s 1) = .ok a s1) (hd : 50 ≤ d) : (mach p most (K + 1)).expr d vs (.mk 5 o n nm [e]) s = .stop 4 0 s1 := by
  have he' : (mach p most K).expr d vs e { s with steps := s.steps + 1 } = .ok a s1 := he
  simp [mach, exprM, show ¬ most ≤ (s.steps : Int) by omega, argsM, LE.args, LE.kind, he', hd]
theorem st_set (h : (s.steps : Int) < most) (he : (mach p most K).expr d c.vars e (tk s 1) = .ok a s1) : (mach p most (K + 1)).stmt d c (.mk 1 nm [e] t el) s = .ok (0, { c with vars := upd c.vars nm a }) s1 := by
  have he' : (mach p most K).expr d c.vars e { s with steps := s.steps + 1 } = .ok a s1 := he
  simp [mach, stmtM, show ¬ most ≤ (s.steps : Int) by omega, argsM, LS.args, LS.kind, LS.name, he', hd]
theorem st_if (h : (s.steps : Int) < most) (he : (mach p most K).expr d c.vars e (tk s 1) = .ok a s1) : (mach p most (K + 1)).stmt d c (.mk 3 nm [e] t el) s = blockM ((mach p most K).stmt d) (if a = 0 then el else t) c s1 := by
  have he' : (mach p most K).expr d c.vars e { s with steps := s.steps + 1 } = .ok a s1 := he
  simp [mach, stmtM, show ¬ most ≤ (s.steps : Int) by omega, argsM, LS.args, LS.kind, LS.thn, LS.els, he', hd]
theorem st_ret (h : (s.steps : Int) < most) (he : (mach p most K).expr d c.vars e (tk s 1) = .ok a s1) : (mach p most (K + 1)).stmt d c (.mk 7 nm [e] t el) s = .ok (3, { c with value := a }) s1 := by
  have he' : (mach p most K).expr d c.vars e { s with steps := s.steps + 1 } = .ok a s1 := he
  simp [mach, stmtM, show ¬ most ≤ (s.steps : Int) by omega, argsM, LS.args, LS.kind, he', hd]
theorem st_ret_stop (h : (s.steps : Int) < most) (he : (mach p most K).expr d c.vars e (tk s 1) = .stop st cd s1) : (mach p most (K + 1)).stmt d c (.mk 7 nm [e] t el) s = .stop st cd s1 := by
  have he' : (mach p most K).expr d c.vars e { s with steps := s.steps + 1 } = .stop st cd s1 := he
  simp [mach, stmtM, show ¬ most ≤ (s.steps : Int) by omega, argsM, LS.args, LS.kind, he']
theorem st_print (h : (s.steps : Int) < most) (he : (mach p most K).expr d c.vars e (tk s 1) = .ok a s1) : (mach p most (K + 1)).stmt d c (.mk 8 nm [e] t el) s = .ok (0, c) { s1 with out := s1.out ++ [a] } := by
  have he' : (mach p most K).expr d c.vars e { s with steps := s.steps + 1 } = .ok a s1 := he
  simp [mach, stmtM, show ¬ most ≤ (s.steps : Int) by omega, argsM, LS.args, LS.kind, he', hd]
theorem st_while (h : (s.steps : Int) < most) : (mach p most (K + 1)).stmt d c (.mk 4 nm [e] t el) s = (mach p most K).loop d c (.mk 4 nm [e] t el) (tk s 1) := by
  simp [mach, stmtM, show ¬ most ≤ (s.steps : Int) by omega, LS.kind, tk]
theorem lp_end (he : (mach p most K).expr d c.vars e s = .ok 0 s1) : (mach p most (K + 1)).loop d c (.mk 4 nm [e] t el) s = .ok (0, c) s1 := by
  simp [mach, loopM, LS.args, he]
theorem lp_round {c1 : CSt} (he : (mach p most K).expr d c.vars e s = .ok a s1) (ha : a ≠ 0) (hb : blockM ((mach p most K).stmt d) t c s1 = .ok (0, c1) s2) : (mach p most (K + 1)).loop d c (.mk 4 nm [e] t el) s = (mach p most K).loop d c1 (.mk 4 nm [e] t el) s2 := by
  simp [mach, loopM, LS.args, LS.thn, he, ha, hb]
theorem bl_cons {x : LS} {c1 : CSt} {m : CSt → LS → ESt → Res (Int × CSt)} (h : m c x s = .ok (0, c1) s1) : blockM m (x :: l) c s = blockM m l c1 s1 := by simp [blockM, h]
theorem bl_ret {x : LS} {c1 : CSt} {m : CSt → LS → ESt → Res (Int × CSt)} (h : m c x s = .ok (3, c1) s1) : blockM m (x :: l) c s = .ok (3, c1) s1 := by simp [blockM, h]
theorem bl_stop {x : LS} {m : CSt → LS → ESt → Res (Int × CSt)} (h : m c x s = .stop st cd s1) : blockM m (x :: l) c s = .stop st cd s1 := by simp [blockM, h]
end
end Go.Proofs.YtjgbkdbkachciaaGreatDoor
