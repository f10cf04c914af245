import Derived.Test.YtjgbkdbkachciaaGreatDoorW2
import Derived.Test.YtjgbkdbkachciaaGreatDoorW3
import Derived.Recover
namespace Go.Proofs.YtjgbkdbkachciaaGreatDoor
open Go.RowKit Go.Shelf
attribute [local go_sem] Oper.semAt_some

abbrev rwZ : Array Value := #[.string ⟨#[]⟩, .int .i64 0, .nilFunc, .nilFunc]
def retI (o : Option Int) : Value := match o with
  | some n => .tuple #[I n, .bool true]
  | none => .tuple #[I 0, .bool false]
theorem twoN_pos {op : Int} (h : 1 ≤ op ∧ op ≤ 16) : twoN op ≠ 0 := by
  rcases (by omega : op = 1 ∨ op = 2 ∨ op = 3 ∨ op = 4 ∨ op = 5 ∨ op = 6 ∨ op = 7 ∨ op = 8 ∨ op = 9 ∨ op = 10 ∨ op = 11 ∨ op = 12 ∨ op = 13 ∨ op = 14 ∨ op = 15 ∨ op = 16) with rfl | rfl | rfl | rfl | rfl | rfl | rfl | rfl | rfl | rfl | rfl | rfl | rfl | rfl | rfl | rfl
  all_goals decide
theorem oneN_pos {op : Int} (h : 17 ≤ op ∧ op ≤ 19) : oneN op ≠ 0 := by
  rcases (by omega : op = 17 ∨ op = 18 ∨ op = 19) with rfl | rfl | rfl
  all_goals decide
theorem twoN_none {op : Int} (h : op < 1 ∨ 16 < op) : twoN op = 0 := by
  unfold twoN
  repeat rw [if_neg (by omega)]
theorem oneN_none {op : Int} (h : op < 17 ∨ 19 < op) : oneN op = 0 := by
  unfold oneN
  repeat rw [if_neg (by omega)]
theorem enters_two (op : Int) (h : 1 ≤ op ∧ op ≤ 16) : ∀ args w, (callFunc (twoN op) args).run Tryz.prog w = .ok (.enter (twoN op) args) w := by
  rcases (by omega : op = 1 ∨ op = 2 ∨ op = 3 ∨ op = 4 ∨ op = 5 ∨ op = 6 ∨ op = 7 ∨ op = 8 ∨ op = 9 ∨ op = 10 ∨ op = 11 ∨ op = 12 ∨ op = 13 ∨ op = 14 ∨ op = 15 ∨ op = 16) with rfl | rfl | rfl | rfl | rfl | rfl | rfl | rfl | rfl | rfl | rfl | rfl | rfl | rfl | rfl | rfl
  · exact enters_of Tryz.func145 (by kernel_rfl) rfl
  · exact enters_of Tryz.func146 (by kernel_rfl) rfl
  · exact enters_of Tryz.func147 (by kernel_rfl) rfl
  · exact enters_of Tryz.func148 (by kernel_rfl) rfl
  · exact enters_of Tryz.func149 (by kernel_rfl) rfl
  · exact enters_of Tryz.func150 (by kernel_rfl) rfl
  · exact enters_of Tryz.func151 (by kernel_rfl) rfl
  · exact enters_of Tryz.func152 (by kernel_rfl) rfl
  · exact enters_of Tryz.func153 (by kernel_rfl) rfl
  · exact enters_of Tryz.func154 (by kernel_rfl) rfl
  · exact enters_of Tryz.func155 (by kernel_rfl) rfl
  · exact enters_of Tryz.func157 (by kernel_rfl) rfl
  · exact enters_of Tryz.func158 (by kernel_rfl) rfl
  · exact enters_of Tryz.func159 (by kernel_rfl) rfl
  · exact enters_of Tryz.func160 (by kernel_rfl) rfl
  · exact enters_of Tryz.func161 (by kernel_rfl) rfl
theorem enters_one (op : Int) (h : 17 ≤ op ∧ op ≤ 19) : ∀ args w, (callFunc (oneN op) args).run Tryz.prog w = .ok (.enter (oneN op) args) w := by
  rcases (by omega : op = 17 ∨ op = 18 ∨ op = 19) with rfl | rfl | rfl
  · exact enters_of Tryz.func162 (by kernel_rfl) rfl
  · exact enters_of Tryz.func163 (by kernel_rfl) rfl
  · exact enters_of Tryz.func164 (by kernel_rfl) rfl

theorem eq34_nil (w : World) : (binOp BinOp.eql 34 Value.nilFunc Value.nilFunc).run Tryz.prog w = .ok (.bool true) w := by kernel_rfl
theorem eq34_fn (k : Nat) (w : World) : (binOp BinOp.eql 34 (.func (.func k) #[] #[]) Value.nilFunc).run Tryz.prog w = .ok (.bool false) w := by kernel_rfl
theorem eq62_nil (w : World) : (binOp BinOp.eql 62 Value.nilFunc Value.nilFunc).run Tryz.prog w = .ok (.bool true) w := by kernel_rfl
theorem eq62_fn (k : Nat) (w : World) : (binOp BinOp.eql 62 (.func (.func k) #[] #[]) Value.nilFunc).run Tryz.prog w = .ok (.bool false) w := by kernel_rfl

set_option maxRecDepth 100000 in
set_option maxHeartbeats 4000000 in
theorem two_any (op a b : Int) (w : World) : Calls Tryz.prog 63 #[I op, I a, I b] w fun e w' => e = .returned (retI (twoI op a b)) ∧ Below w.heap.size w w' := by
  have q1 := eq34_nil
  have q2 := eq34_fn
  have q3 := eq62_nil
  have q4 := eq62_fn
  have HRO := Lib.hid (rowOf_any op w)
  obtain ⟨sg, hsg⟩ : ∃ s, s = signS op := ⟨_, rfl⟩
  obtain ⟨lv, hlv⟩ : ∃ s, s = levelI op := ⟨_, rfl⟩
  obtain ⟨fo, hfo⟩ : ∃ s, s = fnV (oneN op) := ⟨_, rfl⟩
  by_cases hop : 1 ≤ op ∧ op ≤ 16
  · obtain ⟨fid, hfid⟩ : ∃ n, n = twoN op := ⟨_, rfl⟩
    have hall := Lib.hid (show (#[S sg, I lv, .func (.func fid) #[] #[], fo] : Array Value).all (·.oneCell') = true by rw [hfo]; unfold fnV; split <;> simp [Value.oneCell'])
    have hrv : rowV op = .agg #[S sg, I lv, .func (.func fid) #[] #[], fo] := by
      rw [rowV, ← hsg, ← hlv, ← hfo, fnV, if_neg (twoN_pos hop), ← hfid]
    rw [hrv] at HRO
    have HTC := Lib.hid (two_calls op hop a b)
    have hen := enters_two op hop
    rw [← hfid] at HTC hen
    obtain ⟨x, hx⟩ : ∃ x, x = twoF op a b := ⟨_, rfl⟩
    rw [← hx] at HTC
    by_cases hz : b = 0 ∧ (op = 4 ∨ op = 5)
    · have hv : retI (twoI op a b) = .tuple #[I 0, .bool false] := by unfold twoI; rw [if_neg (by omega), if_pos hz]; rfl
      rw [hv]
      obtain ⟨rfl, h45⟩ := hz
      clear hv hrv hsg hlv hfo hfid hx
      rcases h45 with rfl | rfl
      all_goals
        clear hop
        go_enter Tryz.func63, Tryz.ntmps63
        go_wp2_with (first
          | (go_at_call 105; refine HRO.out.mono ?_; rintro e w1 ⟨rfl, hb1⟩; have HB1 := Lib.hid hb1; clear hb1)
          | (refine store_first 160 (.tmp 8) (.tmp 10) rfl ?_; refine wpList_store_row rfl 160 (.tmp 8) (.tmp 10) rfl w1.heap.size _ rfl rfl 160 rwZ (heap_new _ _) (by kernel_rfl) (by rfl) hall.out ?_; rw [World.setRow_alloc_new]))
        go_ret2
        exact ⟨rfl, HB1.out.alloc HB1.out.size _⟩
    · have hv : retI (twoI op a b) = .tuple #[I x, .bool true] := by unfold twoI; rw [if_neg (by omega), if_neg hz, hx]; rfl
      rw [hv]
      have hzz : ((b == 0) = false) ∨ ((b == 0) = true ∧ (op == 4) = false ∧ (op == 5) = false) := by
        by_cases hb : b = 0
        · exact .inr ⟨by rw [hb]; rfl, beq_eq_false_iff_ne.2 (fun h => hz ⟨hb, .inl h⟩), beq_eq_false_iff_ne.2 (fun h => hz ⟨hb, .inr h⟩)⟩
        · exact .inl (beq_eq_false_iff_ne.2 hb)
      clear hv hrv hsg hlv hfo hfid hx hz hop
      rcases hzz with h1 | ⟨h0, h1, h2⟩
      all_goals
        go_enter Tryz.func63, Tryz.ntmps63
        go_wp2_with (first
          | (go_at_call 105; refine HRO.out.mono ?_; rintro e w1 ⟨rfl, hb1⟩; have HB1 := Lib.hid hb1; clear hb1)
          | (refine store_first 160 (.tmp 8) (.tmp 10) rfl ?_; refine wpList_store_row rfl 160 (.tmp 8) (.tmp 10) rfl w1.heap.size _ rfl rfl 160 rwZ (heap_new _ _) (by kernel_rfl) (by rfl) hall.out ?_; rw [World.setRow_alloc_new])
          | (refine (HTC.out _).mono ?_; rintro e w2 ⟨rfl, rfl⟩))
      all_goals
        go_ret2
        exact ⟨rfl, HB1.out.alloc HB1.out.size _⟩
  · have hall := Lib.hid (show (#[S sg, I lv, .nilFunc, fo] : Array Value).all (·.oneCell') = true by rw [hfo]; unfold fnV; split <;> simp [Value.oneCell'])
    have hrv : rowV op = .agg #[S sg, I lv, .nilFunc, fo] := by
      rw [rowV, ← hsg, ← hlv, ← hfo, fnV, if_pos (twoN_none (by omega))]
    rw [hrv] at HRO
    have hv : retI (twoI op a b) = .tuple #[I 0, .bool false] := by unfold twoI; rw [if_pos (by omega)]; rfl
    rw [hv]
    clear hv hrv hsg hlv hfo hop
    go_enter Tryz.func63, Tryz.ntmps63
    go_wp2_with (first
      | (go_at_call 105; refine HRO.out.mono ?_; rintro e w1 ⟨rfl, hb1⟩; have HB1 := Lib.hid hb1; clear hb1)
      | (refine store_first 160 (.tmp 8) (.tmp 10) rfl ?_; refine wpList_store_row rfl 160 (.tmp 8) (.tmp 10) rfl w1.heap.size _ rfl rfl 160 rwZ (heap_new _ _) (by kernel_rfl) (by rfl) hall.out ?_; rw [World.setRow_alloc_new]))
    go_ret2
    exact ⟨rfl, HB1.out.alloc HB1.out.size _⟩

set_option maxRecDepth 100000 in
set_option maxHeartbeats 4000000 in
theorem one_any (op a : Int) (w : World) : Calls Tryz.prog 62 #[I op, I a] w fun e w' => e = .returned (retI (oneI op a)) ∧ Below w.heap.size w w' := by
  have q1 := eq34_nil
  have q2 := eq34_fn
  have q3 := eq62_nil
  have q4 := eq62_fn
  have HRO := Lib.hid (rowOf_any op w)
  obtain ⟨sg, hsg⟩ : ∃ s, s = signS op := ⟨_, rfl⟩
  obtain ⟨lv, hlv⟩ : ∃ s, s = levelI op := ⟨_, rfl⟩
  obtain ⟨fo, hfo⟩ : ∃ s, s = fnV (twoN op) := ⟨_, rfl⟩
  by_cases hop : 17 ≤ op ∧ op ≤ 19
  · obtain ⟨fid, hfid⟩ : ∃ n, n = oneN op := ⟨_, rfl⟩
    have hall := Lib.hid (show (#[S sg, I lv, fo, .func (.func fid) #[] #[]] : Array Value).all (·.oneCell') = true by rw [hfo]; unfold fnV; split <;> simp [Value.oneCell'])
    have hrv : rowV op = .agg #[S sg, I lv, fo, .func (.func fid) #[] #[]] := by
      rw [rowV, ← hsg, ← hlv, ← hfo, fnV, if_neg (oneN_pos hop), ← hfid]
    rw [hrv] at HRO
    have HTC := Lib.hid (one_calls op hop a)
    have hen := enters_one op hop
    rw [← hfid] at HTC hen
    obtain ⟨x, hx⟩ : ∃ x, x = oneF op a := ⟨_, rfl⟩
    rw [← hx] at HTC
    have hv : retI (oneI op a) = .tuple #[I x, .bool true] := by unfold oneI; rw [if_neg (by omega), hx]; rfl
    rw [hv]
    clear hv hrv hsg hlv hfo hfid hx hop
    go_enter Tryz.func62, Tryz.ntmps62
    go_wp2_with (first
      | (go_at_call 105; refine HRO.out.mono ?_; rintro e w1 ⟨rfl, hb1⟩; have HB1 := Lib.hid hb1; clear hb1)
      | (refine store_first 160 (.tmp 6) (.tmp 8) rfl ?_; refine wpList_store_row rfl 160 (.tmp 6) (.tmp 8) rfl w1.heap.size _ rfl rfl 160 rwZ (heap_new _ _) (by kernel_rfl) (by rfl) hall.out ?_; rw [World.setRow_alloc_new])
      | (refine (HTC.out _).mono ?_; rintro e w2 ⟨rfl, rfl⟩))
    go_ret2
    exact ⟨rfl, HB1.out.alloc HB1.out.size _⟩
  · have hall := Lib.hid (show (#[S sg, I lv, fo, .nilFunc] : Array Value).all (·.oneCell') = true by rw [hfo]; unfold fnV; split <;> simp [Value.oneCell'])
    have hrv : rowV op = .agg #[S sg, I lv, fo, .nilFunc] := by
      rw [rowV, ← hsg, ← hlv, ← hfo]
      conv => rhs; rw [show Value.nilFunc = fnV (oneN op) by rw [fnV, if_pos (oneN_none (by omega))]]
    rw [hrv] at HRO
    have hv : retI (oneI op a) = .tuple #[I 0, .bool false] := by unfold oneI; rw [if_pos (by omega)]; rfl
    rw [hv]
    clear hv hrv hsg hlv hfo hop
    go_enter Tryz.func62, Tryz.ntmps62
    go_wp2_with (first
      | (go_at_call 105; refine HRO.out.mono ?_; rintro e w1 ⟨rfl, hb1⟩; have HB1 := Lib.hid hb1; clear hb1)
      | (refine store_first 160 (.tmp 6) (.tmp 8) rfl ?_; refine wpList_store_row rfl 160 (.tmp 6) (.tmp 8) rfl w1.heap.size _ rfl rfl 160 rwZ (heap_new _ _) (by kernel_rfl) (by rfl) hall.out ?_; rw [World.setRow_alloc_new]))
    go_ret2
    exact ⟨rfl, HB1.out.alloc HB1.out.size _⟩
end Go.Proofs.YtjgbkdbkachciaaGreatDoor

/-
  What a program does, as plain functions: eval's run.
-/
namespace Go.Proofs.YtjgbkdbkachciaaGreatDoor
open Go.RowKit Go.Shelf

/-! ### eval -/
/-- what turns while a program runs -/
structure ESt where
  inp : List Int
  arrs : List (List Int)
  out : List Int
  steps : Nat
inductive Res (α : Type) where
  | ok (a : α) (s : ESt)
  | stop (status code : Int) (s : ESt)
abbrev Vars := Str → Int
structure CSt where
  vars : Vars
  value : Int
def upd (f : Vars) (x : Str) (v : Int) : Vars := fun y => if y = x then v else f y
/-- what expressions tell, in turn -/
def argsM (f : LE → ESt → Res Int) : List LE → ESt → Res (List Int)
  | [], s => .ok [] s
  | e :: l, s => match f e s with
    | .stop a b s => .stop a b s
    | .ok n s => match argsM f l s with
      | .stop a b s => .stop a b s
      | .ok ns s => .ok (n :: ns) s
/-- statements, up to one that leaves; how: 0: onward, 1: breaks, 2: continues, 3: returns -/
def blockM (f : CSt → LS → ESt → Res (Int × CSt)) : List LS → CSt → ESt → Res (Int × CSt)
  | [], c, s => .ok (0, c) s
  | x :: l, c, s => match f c x s with
    | .stop a b s => .stop a b s
    | .ok (how, c) s => if how = 0 then blockM f l c s else .ok (how, c) s
/-- a call's variables -/
def vars0 (f : LF) (args : List Int) : Vars := f.locals.foldl (fun g x => upd g x 0) ((f.params.zip args).foldl (fun g p => upd g p.1 p.2) fun _ => 0)
def arrayI (p : LP) (x : Str) : Nat := (placeA p x).toNat
def funcAt (p : LP) (x : Str) : LF := fnAt p (placeF p x)
def arrAt (p : LP) (s : ESt) (x : Str) : List Int := s.arrs.getD (arrayI p x) []
def hd (l : List Int) : Int := l.getD 0 0
def hd2 (l : List Int) : Int := l.getD 1 0
structure Mach where
  expr : Nat → Vars → LE → ESt → Res Int
  stmt : Nat → CSt → LS → ESt → Res (Int × CSt)
  loop : Nat → CSt → LS → ESt → Res (Int × CSt)
def callM (p : LP) (stmt : Nat → CSt → LS → ESt → Res (Int × CSt)) (d : Nat) (x : Str) (args : List Int) (s : ESt) : Res Int :=
  match blockM (stmt (d + 1)) (funcAt p x).body ⟨vars0 (funcAt p x) args, 0⟩ s with
  | .stop a b s => .stop a b s
  | .ok q s => .ok q.2.value s
def exprM (p : LP) (most : Int) (m : Mach) (d : Nat) (vs : Vars) (e : LE) (s : ESt) : Res Int :=
  if most ≤ s.steps then .stop 0 0 s else
  match argsM (m.expr d vs) e.args { s with steps := s.steps + 1 } with
  | .stop a b s => .stop a b s
  | .ok args s =>
    if e.kind = 1 then .ok e.n s
    else if e.kind = 2 then .ok (vs e.name) s
    else if e.kind = 3 then .ok ((oneI e.op (hd args)).getD 0) s
    else if e.kind = 4 then match twoI e.op (hd args) (hd2 args) with
      | none => .stop 2 0 s
      | some n => .ok n s
    else if e.kind = 6 then
      if hd args < 0 ∨ ((arrAt p s e.name).length : Int) ≤ hd args then .stop 3 0 s else .ok ((arrAt p s e.name).getD (hd args).toNat 0) s
    else if e.kind = 7 then match s.inp with
      | [] => .ok (-1) s
      | x :: l => .ok x { s with inp := l }
    else if 50 ≤ d then .stop 4 0 s
    else callM p m.stmt d e.name args s
def stmtM (p : LP) (most : Int) (m : Mach) (d : Nat) (c : CSt) (x : LS) (s : ESt) : Res (Int × CSt) :=
  if most ≤ s.steps then .stop 0 0 s else
  if x.kind = 4 then m.loop d c x { s with steps := s.steps + 1 }
  else if x.kind = 5 then .ok (1, c) { s with steps := s.steps + 1 }
  else if x.kind = 6 then .ok (2, c) { s with steps := s.steps + 1 }
  else match argsM (m.expr d c.vars) x.args { s with steps := s.steps + 1 } with
  | .stop a b s => .stop a b s
  | .ok args s =>
    if x.kind = 1 then .ok (0, { c with vars := upd c.vars x.name (hd args) }) s
    else if x.kind = 2 then
      if hd args < 0 ∨ ((arrAt p s x.name).length : Int) ≤ hd args then .stop 3 0 s
      else .ok (0, c) { s with arrs := s.arrs.set (arrayI p x.name) ((arrAt p s x.name).set (hd args).toNat (hd2 args)) }
    else if x.kind = 3 then blockM (m.stmt d) (if hd args = 0 then x.els else x.thn) c s
    else if x.kind = 7 then .ok (3, { c with value := hd args }) s
    else if x.kind = 8 then .ok (0, c) { s with out := s.out ++ [hd args] }
    else if x.kind = 9 then .stop 5 (hd args) s
    else .ok (0, c) s
def loopM (m : Mach) (d : Nat) (c : CSt) (x : LS) (s : ESt) : Res (Int × CSt) :=
  match m.expr d c.vars (x.args.getD 0 (.mk 0 0 0 [] [])) s with
  | .stop a b s => .stop a b s
  | .ok n s => if n = 0 then .ok (0, c) s else match blockM (m.stmt d) x.thn c s with
    | .stop a b s => .stop a b s
    | .ok (how, c) s => if how = 1 then .ok (0, c) s else if how = 3 then .ok (3, c) s else m.loop d c x s
def mach (p : LP) (most : Int) : Nat → Mach
  | 0 => ⟨fun _ _ _ s => .stop 0 0 s, fun _ _ _ s => .stop 0 0 s, fun _ _ _ s => .stop 0 0 s⟩
  | k + 1 => ⟨exprM p most (mach p most k), stmtM p most (mach p most k), loopM (mach p most k)⟩
structure LR where
  status : Int
  code : Int
  out : List Int
  steps : Nat
def runM (p : LP) (fuel : Nat) (inp : List Int) (most : Int) : LR :=
  match callM p (mach p most fuel).stmt 0 [109, 97, 105, 110] [] ⟨inp, p.arrays.map fun a => List.replicate a.size.toNat 0, [], 0⟩ with
  | .stop a b s => ⟨a, b, s.out, s.steps⟩
  | .ok n s => ⟨1, n, s.out, s.steps⟩
end Go.Proofs.YtjgbkdbkachciaaGreatDoor

namespace Go.Proofs.YtjgbkdbkachciaaGreatDoor
open Go.RowKit Go.Shelf
attribute [local go_sem] Oper.semAt_some

/-! ### what is kept in some blocks -/
structure KF (F : Nat → Prop) (W W' : World) : Prop where
  os : W'.os = W.os
  tape : W'.tape = W.tape
  output : W'.output = W.output
  size : W.heap.size ≤ W'.heap.size
  block : ∀ b, F b → W'.heap[b]? = W.heap[b]?
theorem KF.refl (F : Nat → Prop) (W : World) : KF F W W := ⟨rfl, rfl, rfl, Nat.le_refl _, fun _ _ => rfl⟩
theorem KF.trans {F : Nat → Prop} {A B C : World} (h : KF F A B) (k : KF F B C) : KF F A C := ⟨k.os.trans h.os, k.tape.trans h.tape, k.output.trans h.output, Nat.le_trans h.size k.size, fun b hb => (k.block b hb).trans (h.block b hb)⟩
theorem KF.mono {F F' : Nat → Prop} {W W' : World} (h : KF F' W W') (hF : ∀ b, F b → F' b) : KF F W W' := ⟨h.os, h.tape, h.output, h.size, fun b hb => h.block b (hF b hb)⟩
theorem KF.grown {F : Nat → Prop} {W W' : World} {row : Option Nat} (hg : W.grownBy W' row) (hl : ∀ b, F b → b < W.heap.size) (hr : ∀ r, row = some r → ¬ F r) : KF F W W' := ⟨hg.os, hg.tape, hg.output, hg.size, fun b hb => hg.block b (hl b hb) (fun e => hr b e.symm hb)⟩
theorem KF.below {F : Nat → Prop} {W W' : World} (hb : Below W.heap.size W W') (hl : ∀ b, F b → b < W.heap.size) : KF F W W' := KF.grown (below_grown hb none) hl (fun r e => by cases e)
theorem KF.row {F : Nat → Prop} {W W' : World} (h : KF F W W') {g : Nat} {t : TypeId} {cs : List Value} (hr : Row W g t cs) (hg : F g) : Row W' g t cs := (h.block g hg).trans hr
theorem cell_on {W W' : World} {a : Addr} (h : W'.heap[a.block]? = W.heap[a.block]?) : W'.cell? a = W.cell? a := World.cell?_of_block (w := W) h
theorem RSlB.on {α : Type} {B : Nat → Prop} {k : Nat} {R : World → (Nat → Value) → α → Prop} {w w' : World} (hb : ∀ b, B b → w'.heap[b]? = w.heap[b]?) (hR : ∀ C x, R w C x → R w' C x) {v : Value} {l : List α} (h : RSlB B k R w v l) : RSlB B k R w' v l := by
  obtain ⟨a, c, h1, h2, h3⟩ := h
  refine ⟨a, c, h1, h2, h3.imp (fun h => h) ?_⟩
  rintro ⟨b, o, h4, h5, h6⟩
  refine ⟨b, o, h4, h5, fun i x hx => ?_⟩
  obtain ⟨C, hC, hr⟩ := h6 i x hx
  exact ⟨C, fun j hj => (cell_on (hb b h5)).trans (hC j hj), hR C x hr⟩
theorem RE.on : ∀ (d : Nat) {B : Nat → Prop} {w w' : World} (_ : ∀ b, B b → w'.heap[b]? = w.heap[b]?) {C : Nat → Value} {e : LE}, RE d B w C e → RE d B w' C e
  | 0, _, _, _, _, _, _, h => h
  | d + 1, _, _, _, hb, _, _, ⟨h0, h1, h2, h3, h4⟩ => ⟨h0, h1, h2, h3, h4.on hb fun _ _ h => RE.on d hb h⟩
theorem EX.on {B : Nat → Prop} {w w' : World} {av : Value} {e : LE} (h : EX B w av e) (hb : ∀ b, B b → w'.heap[b]? = w.heap[b]?) : EX B w' av e := by
  obtain ⟨d, h⟩ := h
  exact ⟨d, h.on hb fun _ _ h => RE.on d hb h⟩
theorem RS.on : ∀ (d : Nat) {B : Nat → Prop} {w w' : World} (_ : ∀ b, B b → w'.heap[b]? = w.heap[b]?) {C : Nat → Value} {s : LS}, RS d B w C s → RS d B w' C s
  | 0, _, _, _, _, _, _, h => h
  | d + 1, _, _, _, hb, _, _, ⟨h0, h1, h2, h3, h4⟩ => ⟨h0, h1, h2.on hb, h3.on hb fun _ _ h => RS.on d hb h, h4.on hb fun _ _ h => RS.on d hb h⟩
theorem SX.on {B : Nat → Prop} {w w' : World} {v : Value} {l : List LS} (h : SX B w v l) (hb : ∀ b, B b → w'.heap[b]? = w.heap[b]?) : SX B w' v l := by
  obtain ⟨d, h⟩ := h
  exact ⟨d, h.on hb fun _ _ h => RS.on d hb h⟩
theorem PX.on {B : Nat → Prop} {w w' : World} {av fv : Value} {p : LP} (h : PX B w av fv p) (hb : ∀ b, B b → w'.heap[b]? = w.heap[b]?) : PX B w' av fv p :=
  ⟨h.1.on hb fun _ _ h => h, h.2.on hb fun _ _ h => ⟨h.1, h.2.1.on hb fun _ _ h => h, h.2.2.1.on hb fun _ _ h => h, h.2.2.2.on hb⟩⟩

/-! ### variables: a map from strings to ints -/
/-- block b is a map that tells f of each string, 0 of those that are not there -/
def VarsAt (w : World) (b : Nat) (f : Vars) : Prop :=
  ∃ (es : Array MapEntry) (clock : Nat) (ks : List Str), w.heap[b]? = some (.map es clock) ∧ es.toList.map (·.key) = ks.map S ∧ es.toList.map (·.val) = ks.map (fun k => I (f k)) ∧ ks.Nodup ∧ ∀ x, x ∉ ks → f x = 0
theorem VarsAt.on {w w' : World} {b : Nat} {f : Vars} (h : VarsAt w b f) (hb : w'.heap[b]? = w.heap[b]?) : VarsAt w' b f := by
  obtain ⟨es, cl, ks, h1, h2⟩ := h
  exact ⟨es, cl, ks, hb.trans h1, h2⟩
theorem VarsAt.lt {w : World} {b : Nat} {f : Vars} (h : VarsAt w b f) : b < w.heap.size := by
  obtain ⟨es, cl, ks, h1, _⟩ := h
  exact (Array.getElem?_eq_some_iff.1 h1).1
theorem S_inj {x y : Str} (h : S x = S y) : x = y := by simpa [S] using h
theorem bbeq (x y : Str) : ((⟨x.toArray⟩ : ByteArray) == ⟨y.toArray⟩) = decide (x = y) := by
  have h : ((⟨x.toArray⟩ : ByteArray) == ⟨y.toArray⟩) = (x.toArray == y.toArray) := rfl
  rw [h]
  by_cases e : x = y
  · subst e; simp
  · simp [e]
theorem findNow_str (x : Str) : ∀ (es : List MapEntry) (ys : List Str) (n : Nat), es.map (·.key) = ys.map S →
    Instr.findNow .string (S x) es n = some ((ys.findIdx? (fun y => decide (x = y))).map fun i => (n + i, (es.map (·.val)).getD i undef))
  | [], [], n, _ => by simp [Instr.findNow]
  | e :: es, y :: ys, n, h => by
    simp only [List.map_cons, List.cons.injEq] at h
    have ih := findNow_str x es ys (n + 1) h.2
    unfold Instr.findNow
    rw [h.1]
    by_cases hxy : x = y
    · subst hxy
      simp [Instr.sameNow, List.findIdx?_cons, bbeq]
    · have h2 : ((⟨x.toArray⟩ : ByteArray) == ⟨y.toArray⟩) = false := by rw [bbeq]; simp [hxy]
      simp only [Instr.sameNow, h2, ih, List.findIdx?_cons, hxy, decide_false]
      cases hf : List.findIdx? (fun y => decide (x = y)) ys with
      | none => simp
      | some i => simp; omega
  | [], _ :: _, _, h => by simp at h
  | _ :: _, [], _, h => by simp at h
theorem run_findStr (x : Str) (es : List MapEntry) (ys : List Str) (w : World) (h : es.map (·.key) = ys.map S) :
    (Instr.findKey 9 (S x) es).run Tryz.prog w = .ok ((ys.findIdx? (fun y => decide (x = y))).map fun i => (i, (es.map (·.val)).getD i undef)) w := by
  unfold Instr.findKey
  simp [run_underlying Tryz.underlying9, findNow_str x es ys 0 h]
theorem run_checkStr (e : Bool) (x : Str) (w : World) : (Instr.checkKey e 10000 9 (S x)).run Tryz.prog w = .ok () w := by
  unfold Instr.checkKey
  simp [run_underlying Tryz.underlying9]
theorem findIdx_none' {x : Str} {ys : List Str} : ys.findIdx? (fun y => decide (x = y)) = none ↔ x ∉ ys := by
  rw [List.findIdx?_eq_none_iff]; simp only [decide_eq_false_iff_not]
  constructor
  · intro h hx; exact h x hx rfl
  · rintro h y hy rfl; exact h hy
theorem findIdx_mem' {x : Str} {ys : List Str} {i : Nat} (h : ys.findIdx? (fun y => decide (x = y)) = some i) : ys[i]? = some x ∧ x ∈ ys := by
  obtain ⟨h1, h2, _⟩ := List.findIdx?_eq_some_iff_getElem.1 h
  simp only [decide_eq_true_eq] at h2
  exact ⟨by rw [List.getElem?_eq_getElem h1, h2], by rw [h2]; exact List.getElem_mem _⟩
theorem run_getMap' {w : World} {b : Nat} {es : Array MapEntry} {clock : Nat} (h : w.heap[b]? = some (.map es clock)) : (getObj b).run Tryz.prog w = .ok (.map es clock) w := by
  simp [getObj, Sem.run, h]
theorem run_look {w : World} {b : Nat} {f : Vars} (hs : VarsAt w b f) (x : Str) :
    (Instr.lookup 146 (.map (some b)) (S x) false).run Tryz.prog w = .ok (I (f x)) w := by
  obtain ⟨es, clock, ks, hb, hk, hv, hn, h0⟩ := hs
  have hz : ∀ w, (zeroValue 3).run Tryz.prog w = .ok (.int .i64 0) w := Tryz.zeroValue3
  unfold Instr.lookup
  simp only [Sem.run_bind, run_underlying Tryz.underlying146, Result.andThen_ok, run_getMap' hb, Sem.run_pure, run_checkStr, run_findStr x es.toList ks w hk]
  cases hf : ks.findIdx? (fun z => decide (x = z)) with
  | none =>
    have := findIdx_none'.1 hf
    simp [h0 x this, hz]
  | some i =>
    obtain ⟨h1, h2⟩ := findIdx_mem' hf
    have hval : (es.toList.map (·.val)).getD i undef = I (f x) := by
      rw [hv, List.getD_eq_getElem?_getD, List.getElem?_map, h1]; rfl
    simp only [Option.map_some, hval]
    rfl
def putB' (w : World) (b : Nat) (o : Obj) : World := { w with heap := w.heap.setIfInBounds b o }
theorem run_setMap' {w : World} {b : Nat} {es : Array MapEntry} {clock : Nat} (h : w.heap[b]? = some (.map es clock)) (o : Obj) : (setObj b o).run Tryz.prog w = .ok () (putB' w b o) := by
  simp [setObj, Sem.run, h, putB']
theorem putB'_grown (w : World) (b : Nat) (o : Obj) : w.grownBy (putB' w b o) (some b) :=
  ⟨rfl, rfl, rfl, by simp [putB'], fun k hk hne => by simp only [putB']; rw [Array.getElem?_setIfInBounds_ne]; intro e; exact hne (by rw [e])⟩
theorem putB'_at {w : World} {b : Nat} {o o' : Obj} (h : w.heap[b]? = some o) : (putB' w b o').heap[b]? = some o' := by
  have := (Array.getElem?_eq_some_iff.1 h).1
  simp [putB', this]
set_option maxRecDepth 100000 in
theorem run_put {w : World} {b : Nat} {f : Vars} (hs : VarsAt w b f) (x : Str) (v : Int) :
    ∃ w', (Instr.mapUpdate 146 (.map (some b)) (S x) (I v)).run Tryz.prog w = .ok () w' ∧ VarsAt w' b (upd f x v) ∧ w.grownBy w' (some b) ∧ w'.heap.size = w.heap.size := by
  obtain ⟨es, clock, ks, hb, hk, hv, hn, h0⟩ := hs
  have hrun : (Instr.mapUpdate 146 (.map (some b)) (S x) (I v)).run Tryz.prog w =
      match ks.findIdx? (fun z => decide (x = z)) with
      | some i => .ok () (putB' w b (.map (es.modify i fun e => { e with key := S x, val := I v }) clock))
      | none => .ok () (putB' w b (.map (es.push { key := S x, val := I v, born := clock }) (clock + 1))) := by
    unfold Instr.mapUpdate
    simp only [Sem.run_bind, run_underlying Tryz.underlying146, Result.andThen_ok, run_getMap' hb, run_checkStr, run_findStr x es.toList ks w hk]
    cases hf : ks.findIdx? (fun z => decide (x = z)) with
    | none => simp [run_setMap' hb]
    | some i =>
      obtain ⟨h1, _⟩ := findIdx_mem' hf
      have hkey : ((es[i]?).map (·.key)).getD (S x) = S x := by
        have : (es.toList.map (·.key))[i]? = some (S x) := by rw [hk, List.getElem?_map, h1]; rfl
        rw [List.getElem?_map, Array.getElem?_toList] at this
        rw [this]; rfl
      have hsb : ∀ n, Instr.sameBits n (S x) (S x) = true := fun n => by cases n <;> simp [Instr.sameBits, bbeq]
      have hks : (Instr.keyThatStays (S x) (S x)).run Tryz.prog w = .ok (S x) w := by
        unfold Instr.keyThatStays
        rw [hsb, if_pos rfl, Sem.run_pure]
      simp only [Option.map_some, hkey, hks, Sem.run_bind, Result.andThen_ok, run_setMap' hb]
  rw [hrun]
  cases hf : ks.findIdx? (fun z => decide (x = z)) with
  | none =>
    have hy := findIdx_none'.1 hf
    refine ⟨_, rfl, ⟨_, _, ks ++ [x], putB'_at hb, ?_, ?_, ?_, ?_⟩, putB'_grown _ _ _, by simp [putB']⟩
    · simp [hk]
    · simp only [Array.toList_push, List.map_append, List.map_cons, List.map_nil, hv]
      congr 1
      · refine List.map_congr_left fun k hk' => ?_
        unfold upd
        rw [if_neg (fun e => hy (by rw [← e]; exact hk'))]
      · simp [upd]
    · rw [List.nodup_append]
      exact ⟨hn, by simp, by rintro a ha c hc rfl; simp at hc; subst hc; exact hy ha⟩
    · intro y hyy
      simp only [List.mem_append, List.mem_singleton, not_or] at hyy
      unfold upd
      rw [if_neg hyy.2]
      exact h0 y hyy.1
  | some i =>
    obtain ⟨h1, h2⟩ := findIdx_mem' hf
    have hlt : i < ks.length := (List.findIdx?_eq_some_iff_getElem.1 hf).1
    have hes : es.size = ks.length := by have := congrArg List.length hk; simpa using this
    have hki : ks[i] = x := by rw [List.getElem?_eq_getElem hlt] at h1; simpa using h1
    refine ⟨_, rfl, ⟨_, _, ks, putB'_at hb, ?_, ?_, hn, ?_⟩, putB'_grown _ _ _, by simp [putB']⟩
    · rw [← hk]
      apply List.ext_getElem
      · simp
      · intro j hj1 hj2
        simp only [List.getElem_map, Array.getElem_toList, Array.getElem_modify]
        split
        · next hij =>
          subst hij
          have : (es.toList.map (·.key))[i]? = some (S x) := by rw [hk, List.getElem?_map, h1]; rfl
          rw [List.getElem?_map, Array.getElem?_toList, Array.getElem?_eq_getElem (by omega)] at this
          simpa using this.symm
        · rfl
    · apply List.ext_getElem
      · simp [hes]
      · intro j hj1 hj2
        simp only [List.getElem_map, Array.getElem_toList, Array.getElem_modify]
        have hj3 : j < ks.length := by simpa using hj2
        split
        · next hij =>
          subst hij
          simp [upd, hki]
        · next hij =>
          have hne : ks[j] ≠ x := fun e => hij ((List.getElem_inj hn).1 (hki.trans e.symm))
          have : (es.toList.map (·.val))[j]? = some (I (f ks[j])) := by rw [hv, List.getElem?_map, List.getElem?_eq_getElem hj3]; rfl
          rw [List.getElem?_map, Array.getElem?_toList, Array.getElem?_eq_getElem (by omega)] at this
          simp only [Option.map_some, Option.some.injEq] at this
          rw [this]
          unfold upd
          rw [if_neg hne]
    · intro y hyy
      unfold upd
      rw [if_neg (fun e => hyy (by rw [e]; exact h2))]
      exact h0 y hyy
end Go.Proofs.YtjgbkdbkachciaaGreatDoor

namespace Go.Proofs.YtjgbkdbkachciaaGreatDoor
open Go.RowKit Go.Shelf
attribute [local go_sem] Oper.semAt_some

/-! ### what lies in memory while a program runs -/
structure RunC where
  G : Nat → Prop
  p : LP
  av : Value
  fv : Value
  arv : Value
  gz : List (Nat × Nat)
  most : Int
  rb : Nat
abbrev RI (_ : World) (C : Nat → Value) (x : Int) : Prop := C 0 = I x
abbrev RAr (_ : World) (C : Nat → Value) (x : Nat × Nat) : Prop := C 0 = .slice (some ⟨x.1, 0, none⟩) x.2 x.2
/-- numbers that are yet to be read: as many as there may be -/
def RSlI (B : Nat → Prop) (W : World) (v : Value) (l : List Int) : Prop :=
  ∃ a c, v = .slice a l.length c ∧ l.length ≤ 140737488351232 ∧ (l = [] ∨ ∃ b o, a = some ⟨b, o, none⟩ ∧ B b ∧
    ∀ i x, l[i]? = some x → ∃ C : Nat → Value, (∀ j, j < 1 → W.cell? ⟨b, o + i * 1 + j, none⟩ = some (C j)) ∧ RI W C x)
theorem RSlI.of {B : Nat → Prop} {W : World} {v : Value} {l : List Int} (h : RSlB B 1 RI W v l) : RSlI B W v l := by
  obtain ⟨a, c, h1, h2, h3⟩ := h
  exact ⟨a, c, h1, by omega, h3⟩
theorem RSlI.small {B : Nat → Prop} {W : World} {v : Value} {l : List Int} (h : RSlI B W v l) (hl : l.length ≤ 1000000000) : RSlB B 1 RI W v l := by
  obtain ⟨a, c, h1, _, h3⟩ := h
  exact ⟨a, c, h1, hl, h3⟩
theorem RSlI.grown {B : Nat → Prop} {w w' : World} {row : Option Nat} {v : Value} {l : List Int} (h : RSlI B w v l) (hg : w.grownBy w' row) (hB : ∀ r, row = some r → ¬ B r) (_ : ∀ (C : Nat → Value) (x : Int), RI w C x → RI w' C x) : RSlI B w' v l := by
  obtain ⟨a, c, h1, h2, h3⟩ := h
  refine ⟨a, c, h1, h2, h3.imp (fun h => h) ?_⟩
  rintro ⟨b, o, h4, h5, h6⟩
  refine ⟨b, o, h4, h5, fun i x hx => ?_⟩
  obtain ⟨C, hC, hr⟩ := h6 i x hx
  exact ⟨C, fun j hj => gcell (hC j hj) hg (fun e => hB b e.symm h5), hr⟩
theorem RSlI.weak {B B' : Nat → Prop} {w : World} {v : Value} {l : List Int} (h : RSlI B w v l) (hB : ∀ b, B b → B' b) (_ : ∀ (C : Nat → Value) (x : Int), RI w C x → RI w C x) : RSlI B' w v l := by
  obtain ⟨a, c, h1, h2, h3⟩ := h
  refine ⟨a, c, h1, h2, h3.imp (fun h => h) ?_⟩
  rintro ⟨b, o, h4, h5, h6⟩
  exact ⟨b, o, h4, hB b h5, h6⟩
/-- what is yet to be read -/
structure RIn (B : Nat → Prop) (W : World) (v : Value) (l : List Int) : Prop where
  sl : RSlI B W v l
  room : ∃ a k, v = .slice a l.length k ∧ l.length ≤ k
theorem RIn.grown {B : Nat → Prop} {W W' : World} {v : Value} {l : List Int} {row : Option Nat} (h : RIn B W v l) (hg : W.grownBy W' row) (hB : ∀ r, row = some r → ¬ B r) (_ : ∀ (C : Nat → Value) (x : Int), RI W C x → RI W' C x) : RIn B W' v l :=
  ⟨h.sl.grown hg hB fun _ _ h => h, h.room⟩
structure ERb (c : RunC) (F : Nat → Prop) (W : World) (arrs : List (List Int)) : Prop where
  lt : ∀ b, F b → b < W.heap.size
  gf : ∀ b, c.G b → F b
  rbF : ¬ F c.rb
  px : PX c.G W c.av c.fv c.p
  arv : RSlB c.G 1 RAr W c.arv c.gz
  gzn : (c.gz.map (·.1)).Nodup
  gzr : ∀ x ∈ c.gz, x.1 ≠ c.rb ∧ ¬ F x.1
  len : arrs.length = c.gz.length
  gza : c.gz.length = c.p.arrays.length
  arr : ∀ (i : Nat) (x : Nat × Nat) (l : List Int), c.gz[i]? = some x → arrs[i]? = some l → Row W x.1 3 (l.map I) ∧ l.length = x.2
abbrev rRow (c : RunC) (d : Nat) (iv ov : Value) (n : Nat) : List Value := [c.av, c.fv, iv, c.arv, I d, I c.most, I 0, I 0, ov, I n]
structure ER (c : RunC) (F : Nat → Prop) (W : World) (d : Nat) (s : ESt) : Prop where
  b : ERb c F W s.arrs
  small : s.steps ≤ 1000000 ∧ s.out.length ≤ s.steps ∧ d ≤ 100 ∧ c.most ≤ 1000000
  st : ∃ iv ov, Row W c.rb 78 (rRow c d iv ov s.steps) ∧ RIn c.G W iv s.inp ∧ OwnInts W 0 ov s.out ∧ ∀ g, ov.ownBlock = some g → ¬ F g ∧ ∀ x ∈ c.gz, x.1 ≠ g
theorem ERb.kept {c : RunC} {F : Nat → Prop} {W W' : World} {arrs : List (List Int)} {row : Option Nat} (h : ERb c F W arrs) (hg : W.grownBy W' row) (hr : ∀ r, row = some r → ¬ F r ∧ ∀ x ∈ c.gz, x.1 ≠ r) : ERb c F W' arrs :=
  ⟨fun b hb => Nat.lt_of_lt_of_le (h.lt b hb) hg.size, h.gf, h.rbF, h.px.grown hg fun r e hG => (hr r e).1 (h.gf r hG), h.arv.grown hg (fun r e hG => (hr r e).1 (h.gf r hG)) fun _ _ h => h, h.gzn, h.gzr, h.len, h.gza,
    fun i x l hx hl => by
      obtain ⟨h1, h2⟩ := h.arr i x l hx hl
      exact ⟨h1.kept hg fun e => (hr _ e.symm).2 x (List.mem_of_getElem? hx) rfl, h2⟩⟩
theorem ER.quiet {c : RunC} {F : Nat → Prop} {W W' : World} {d : Nat} {s : ESt} (h : ER c F W d s) (hg : W.grownBy W' none) : ER c F W' d s := by
  obtain ⟨iv, ov, h1, h2, h3, h4⟩ := h.st
  exact ⟨h.b.kept hg (fun r e => by cases e), h.small, iv, ov, h1.kept hg (by simp), h2.grown hg (fun r e => by cases e) fun _ _ h => h, OwnInts.tag h3 hg (NoTag.none _ _), h4⟩
theorem ER.below {c : RunC} {F : Nat → Prop} {W W' : World} {d : Nat} {s : ESt} (h : ER c F W d s) (hb : Below W.heap.size W W') : ER c F W' d s := h.quiet (below_grown hb none)
theorem ER.kf {c : RunC} {F : Nat → Prop} {W W' : World} {d : Nat} {s : ESt} {row : Option Nat} (h : ER c F W d s) (hg : W.grownBy W' row) (hr : ∀ r, row = some r → ¬ F r) : KF F W W' := KF.grown hg h.b.lt hr
/-- what is kept by less -/
theorem ERb.less {c : RunC} {F F' : Nat → Prop} {W : World} {arrs : List (List Int)} (h : ERb c F' W arrs) (hF : ∀ b, F b → F' b) (hG : ∀ b, c.G b → F b) : ERb c F W arrs :=
  ⟨fun b hb => h.lt b (hF b hb), hG, fun hb => h.rbF (hF _ hb), h.px, h.arv, h.gzn, fun x hx => ⟨(h.gzr x hx).1, fun hb => (h.gzr x hx).2 (hF _ hb)⟩, h.len, h.gza, h.arr⟩
theorem ER.less {c : RunC} {F F' : Nat → Prop} {W : World} {d : Nat} {s : ESt} (h : ER c F' W d s) (hF : ∀ b, F b → F' b) (hG : ∀ b, c.G b → F b) : ER c F W d s := by
  obtain ⟨iv, ov, h1, h2, h3, h4⟩ := h.st
  exact ⟨h.b.less hF hG, h.small, iv, ov, h1, h2, h3, fun g hg => ⟨fun hb => (h4 g hg).1 (hF _ hb), (h4 g hg).2⟩⟩
/-- new blocks are kept, too -/
theorem ER.more {c : RunC} {F : Nat → Prop} {W0 W : World} {d : Nat} {s : ESt} (h0 : ER c F W0 d s) (hb : Below W0.heap.size W0 W) (Q : Nat → Prop) (hQ : ∀ b, Q b → W0.heap.size ≤ b ∧ b < W.heap.size) : ER c (fun b => F b ∨ Q b) W d s := by
  have h := h0.below hb
  obtain ⟨iv, ov, h1, h2, h3, h4⟩ := h0.st
  have hrb : c.rb < W0.heap.size := h1.lt
  refine ⟨⟨?_, fun b hb => .inl (h.b.gf b hb), ?_, h.b.px, h.b.arv, h.b.gzn, fun x hx => ⟨(h.b.gzr x hx).1, ?_⟩, h.b.len, h.b.gza, h.b.arr⟩, h.small, iv, ov, h1.ext hb, h2.grown (below_grown hb none) (fun r e => by cases e) fun _ _ h => h, OwnInts.tag h3 (below_grown hb none) (NoTag.none _ _), fun g hg => ⟨?_, (h4 g hg).2⟩⟩
  · rintro b (hb' | hb')
    · exact h.b.lt b hb'
    · exact (hQ b hb').2
  · rintro (hb' | hb')
    · exact h.b.rbF hb'
    · have := (hQ _ hb').1; omega
  · rintro (hb' | hb')
    · exact (h.b.gzr x hx).2 hb'
    · obtain ⟨i, hi, hxi⟩ := List.getElem_of_mem hx
      have hli : i < s.arrs.length := by rw [h0.b.len]; exact hi
      have := (h0.b.arr i x s.arrs[i] (by rw [List.getElem?_eq_getElem hi, hxi]) (List.getElem?_eq_getElem hli)).1.lt
      have := (hQ _ hb').1
      omega
  · rintro (hb' | hb')
    · exact (h4 g hg).1 hb'
    · have := (ownsRow_base h3 g hg).2
      have := (hQ _ hb').1
      omega

abbrev stopV (st cd : Int) : List PanicEntry := [{ v := .iface 98 (.agg #[I st, I cd]), recovered := false }]

/-- the run's own row written: a place of it, by what it is to tell -/
theorem ER.turn {c : RunC} {F : Nat → Prop} {W W' : World} {d d' : Nat} {s s' : ESt} (h : ER c F W d s) (hg : W.grownBy W' (some c.rb)) (ha : s'.arrs = s.arrs) (hs : s'.steps ≤ 1000000 ∧ s'.out.length ≤ s'.steps ∧ d' ≤ 100)
    (iv' : Value) {ov : Value} (hrow : Row W' c.rb 78 (rRow c d' iv' ov s'.steps)) (hin : RIn c.G W' iv' s'.inp) (ho : OwnInts W' 0 ov s'.out) (hob : ∀ g, ov.ownBlock = some g → ¬ F g ∧ ∀ x ∈ c.gz, x.1 ≠ g) : ER c F W' d' s' :=
  ⟨by rw [ha]; exact h.b.kept hg fun r e => by cases e; exact ⟨h.b.rbF, fun x hx => (h.b.gzr x hx).1⟩, ⟨hs.1, hs.2.1, hs.2.2, h.small.2.2.2⟩, iv', ov, hrow, hin, ho, hob⟩
theorem OwnInts.rb {c : RunC} {W W' : World} {iv : Value} {d n : Nat} {ov : Value} {l : List Int} (hg : W.grownBy W' (some c.rb)) (hrow : Row W c.rb 78 (rRow c d iv ov n)) (ho : OwnInts W 0 ov l) : OwnInts W' 0 ov l :=
  OwnInts.tag ho hg (NoTag.box 3 hrow (by decide))
theorem RIn.rb {c : RunC} {F : Nat → Prop} {W W' : World} {arrs : List (List Int)} {v : Value} {l : List Int} (h : ERb c F W arrs) (hg : W.grownBy W' (some c.rb)) (hr : RIn c.G W v l) : RIn c.G W' v l :=
  hr.grown hg (fun r e hG => by cases e; exact h.rbF (h.gf _ hG)) fun _ _ h => h
theorem RSlB.rb {α : Type} {c : RunC} {F : Nat → Prop} {W W' : World} {arrs : List (List Int)} {k : Nat} {R : World → (Nat → Value) → α → Prop} {v : Value} {l : List α} (h : ERb c F W arrs) (hg : W.grownBy W' (some c.rb)) (hR : ∀ C x, R W C x → R W' C x) (hr : RSlB c.G k R W v l) : RSlB c.G k R W' v l :=
  hr.grown hg (fun r e hG => by cases e; exact h.rbF (h.gf _ hG)) hR

set_option maxRecDepth 100000 in
set_option maxHeartbeats 4000000 in
/-- a step that there is -/
theorem step_yes (c : RunC) (F : Nat → Prop) (W : World) (d : Nat) (s : ESt) (h : ER c F W d s) (hs : ¬ c.most ≤ (s.steps : Int)) :
    Calls Tryz.prog 186 #[.pointer (some ⟨c.rb, 0, none⟩)] W fun e w' => e = .returned (.tuple #[]) ∧ ER c F w' d { s with steps := s.steps + 1 } ∧ KF F W w' := by
  obtain ⟨iv, ov, hrow, hin, ho, hob⟩ := h.st
  have c4 := hrow.cell 5
  have c9 := hrow.cell 9
  have f9 := hrow.frozen 9
  simp only [List.getElem?_cons_succ, List.getElem?_cons_zero] at c4 c9
  have hm : ¬ c.most ≤ (s.steps : Int) := hs
  obtain ⟨mo, hmo⟩ : ∃ m, m = c.most := ⟨_, rfl⟩
  obtain ⟨rb, hrb⟩ : ∃ r, r = c.rb := ⟨_, rfl⟩
  obtain ⟨n, hn⟩ : ∃ n, n = s.steps := ⟨_, rfl⟩
  have hn6 : n ≤ 1000000 := by rw [hn]; exact h.small.1
  rw [← hmo] at c4 hm
  rw [← hrb] at c4 c9 f9 ⊢
  rw [← hn] at c9 hm
  have HH := Lib.hid h
  have HMO := Lib.hid hmo
  have HRB := Lib.hid hrb
  have HNN := Lib.hid hn
  have HROW := Lib.hid hrow
  have HIN := Lib.hid hin
  have HO := Lib.hid ho
  have HOB := Lib.hid hob
  clear h hs hrow hin ho hob hmo hrb hn
  go_enter Tryz.func186, Tryz.ntmps186
  go_wp2
  refine wp_region_ordW (by kernel_rfl) (fun X => X.cell? ⟨rb, 5, none⟩ = some (I mo) ∧ X.cell? ⟨rb, 9, none⟩ = some (I n)) [(0, 0), (0, 1), (0, 2), (0, 3), (0, 4), (0, 5), (0, 6), (0, 7), (0, 8), (0, 9)] (by kernel_rfl) ?hS ?_
  case hS => intro wd hh; exact ⟨(cell_heap hh _).trans c4, (cell_heap hh _).trans c9⟩
  intro wd hh hgd hS
  have c9' := hS.2
  have f9' : wd.frozen? ⟨rb, 9, none⟩ = false := by rw [← f9]; unfold World.frozen?; rw [hh]
  have HGD := Lib.hid hgd
  have HHD := Lib.hid hh
  clear hh hgd c4 c9 f9
  simp only [pickOps, List.map_cons, List.map_nil, List.getElem?_cons_zero, List.getElem?_cons_succ, Option.getD_some]
  repeat (first | (refine wpOrd_pass (by rfl) (by assumption) (fun _ _ _ h => h) ?_; simp only [Act.put, List.setIfInBounds_toArray, List.set_cons_zero, List.set_cons_succ]) | (refine wpOrd_look (v := ?_) (by rfl) ?_ (by assumption) (fun _ _ _ h => h) ?_; rotate_left; (· (intro wS hSw; (try dsimp only at hSw); go_simp; (first | done | with_reducible rfl))); simp only [Act.put, List.setIfInBounds_toArray, List.set_cons_zero, List.set_cons_succ]))
  refine wpOrd_nil ?_
  clear hS
  go_wp2
  go_end0
  have hg0 := HGD.out
  have hg1 := setCell_grown wd rb 9 (I (n + 1))
  have hrb := HRB.out
  rw [hrb] at hg1 ⊢
  have hrow0 := HROW.out.kept hg0 (by simp)
  have hrow1 := hrow0.set 9 (I (n + 1))
  refine ⟨rfl, ER.turn (HH.out.quiet hg0) hg1 rfl ⟨by rw [← HNN.out]; show n + 1 ≤ 1000000; have := HH.out.small.2.2.2; rw [← HMO.out] at this; omega, Nat.le_succ_of_le HH.out.small.2.1, HH.out.small.2.2.1⟩ iv ?_ (RIn.rb (HH.out.quiet hg0).b hg1 (HIN.out.grown hg0 (fun r e => by cases e) fun _ _ h => h)) (OwnInts.rb hg1 hrow0 (OwnInts.tag HO.out hg0 (NoTag.none _ _))) HOB.out, ?_⟩
  · rw [← HNN.out]
    exact hrow1
  · exact (HH.out.kf hg0 (fun r e => by cases e)).trans ((HH.out.quiet hg0).kf hg1 (fun r e => by cases e; exact HH.out.b.rbF))
set_option maxRecDepth 100000 in
set_option maxHeartbeats 4000000 in
/-- none that there is -/
theorem step_no (c : RunC) (F : Nat → Prop) (W : World) (d : Nat) (s : ESt) (h : ER c F W d s) (hs : c.most ≤ (s.steps : Int)) :
    Calls Tryz.prog 186 #[.pointer (some ⟨c.rb, 0, none⟩)] W fun e w' => e = .panicked (stopV 0 0) ∧ ER c F w' d s ∧ KF F W w' := by
  obtain ⟨iv, ov, hrow, hin, ho, hob⟩ := h.st
  have c4 := hrow.cell 5
  have c9 := hrow.cell 9
  simp only [List.getElem?_cons_succ, List.getElem?_cons_zero] at c4 c9
  have hm : c.most ≤ (s.steps : Int) := hs
  obtain ⟨mo, hmo⟩ : ∃ m, m = c.most := ⟨_, rfl⟩
  obtain ⟨rb, hrb⟩ : ∃ r, r = c.rb := ⟨_, rfl⟩
  obtain ⟨n, hn⟩ : ∃ n, n = s.steps := ⟨_, rfl⟩
  rw [← hmo] at c4 hm
  rw [← hrb] at c4 c9 ⊢
  rw [← hn] at c9 hm
  have HH := Lib.hid h
  clear h hs hrow hin ho hob hmo hrb hn
  go_enter Tryz.func186, Tryz.ntmps186
  go_wp2
  refine wp_region_ordW (by kernel_rfl) (fun X => X.cell? ⟨rb, 5, none⟩ = some (I mo) ∧ X.cell? ⟨rb, 9, none⟩ = some (I n)) [(0, 0), (0, 1), (0, 2), (0, 3), (0, 4), (0, 5), (0, 6), (0, 7), (0, 8), (0, 9)] (by kernel_rfl) ?hS ?_
  case hS => intro wd hh; exact ⟨(cell_heap hh _).trans c4, (cell_heap hh _).trans c9⟩
  intro wd hh hgd hS
  have HGD := Lib.hid hgd
  clear hh hgd c4 c9
  simp only [pickOps, List.map_cons, List.map_nil, List.getElem?_cons_zero, List.getElem?_cons_succ, Option.getD_some]
  repeat (first | (refine wpOrd_pass (by rfl) (by assumption) (fun _ _ _ h => h) ?_; simp only [Act.put, List.setIfInBounds_toArray, List.set_cons_zero, List.set_cons_succ]) | (refine wpOrd_look (v := ?_) (by rfl) ?_ (by assumption) (fun _ _ _ h => h) ?_; rotate_left; (· (intro wS hSw; (try dsimp only at hSw); go_simp; (first | done | with_reducible rfl))); simp only [Act.put, List.setIfInBounds_toArray, List.set_cons_zero, List.set_cons_succ]))
  refine wpOrd_nil ?_
  clear hS
  go_wp2
  exact ⟨rfl, rfl, HH.out.quiet HGD.out, HH.out.kf HGD.out (fun r e => by cases e)⟩
end Go.Proofs.YtjgbkdbkachciaaGreatDoor
