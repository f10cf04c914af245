import Derived.Test.YtjgbkdbkachciaaGreatDoorB0
import Derived.Test.YtjgbkdbkachciaaGreatDoorZ9
import Derived.Laws.BytesArg
import Derived.Laws.Concat
namespace Go.Proofs.YtjgbkdbkachciaaGreatDoor
open Go.RowKit Go.Shelf
attribute [local go_sem] Oper.semAt_some

theorem pick_eq (c n : Int) (h : c < 0) : pickI c n = -(c + 1).tmod n := by
  unfold pickI
  rw [if_pos h, ← Int.neg_tmod, Int.tmod_eq_emod_of_nonneg (by omega)]
set_option maxRecDepth 100000 in
theorem pick44_any (c n : Int) (hc : InI c) (hn : 1 ≤ n) (hn2 : n ≤ 4611686018427387904) (W : World) :
    Calls Tryz.prog 44 #[I c, I n] W fun e w' => e = .returned (I (pickI c n)) ∧ w' = W := by
  have hc' := hc
  unfold InI at hc'
  have hne : ¬ n = 0 := by omega
  by_cases h : c < 0
  · rw [pick_eq c n h]
    go_enter Tryz.func44, Tryz.ntmps44
    go_wp2
    go_ret
    exact ⟨rfl, rfl⟩
  · have hp : pickI c n = c % n := by unfold pickI; rw [if_neg h]
    rw [hp]
    clear hp
    go_enter Tryz.func44, Tryz.ntmps44
    go_wp2
    go_ret
    exact ⟨rfl, rfl⟩
set_option maxRecDepth 100000 in
theorem pick79_any (c n : Int) (hc : InI c) (hn : 1 ≤ n) (hn2 : n ≤ 4611686018427387904) (W : World) :
    Calls Tryz.prog 79 #[I c, I n] W fun e w' => e = .returned (I (pickI c n)) ∧ w' = W := by
  have hc' := hc
  unfold InI at hc'
  have hne : ¬ n = 0 := by omega
  by_cases h : c < 0
  · rw [pick_eq c n h]
    go_enter Tryz.func79, Tryz.ntmps79
    go_wp2
    go_ret
    exact ⟨rfl, rfl⟩
  · have hp : pickI c n = c % n := by unfold pickI; rw [if_neg h]
    rw [hp]
    clear hp
    go_enter Tryz.func79, Tryz.ntmps79
    go_wp2
    go_ret
    exact ⟨rfl, rfl⟩

/-- raw numbers, of which some are taken -/
def Src (sb : Nat) (W : World) : Prop := ∃ (v : Value) (l : List Int) (at' : Nat), Row W sb 61 [v, I at'] ∧ RSlB (· < sb) 1 RInt W v l ∧ at' ≤ l.length
theorem Src.kept {sb : Nat} {W W' : World} {row : Option Nat} (h : Src sb W) (hg : W.grownBy W' row) (hr : ∀ r, row = some r → sb < r) : Src sb W' := by
  obtain ⟨v, l, k, h1, h2, h3⟩ := h
  refine ⟨v, l, k, h1.kept hg (fun e => ?_), h2.grown hg (fun r e => ?_) (fun _ _ h => h), h3⟩
  · have := hr sb e.symm; omega
  · have := hr r e; omega
theorem Src.lt {sb : Nat} {W : World} (h : Src sb W) : sb < W.heap.size := by
  obtain ⟨v, l, k, h1, _⟩ := h
  exact h1.lt
/-- what a draw changes -/
def SG (sb : Nat) (W W' : World) : Prop := W.grownBy W' (some sb) ∧ Src sb W'
theorem SG.trans {sb : Nat} {a b c : World} (h : SG sb a b) (k : SG sb b c) : SG sb a c := ⟨grown_trans h.1 k.1, k.2⟩

set_option maxRecDepth 100000 in
set_option maxHeartbeats 4000000 in
/-- the next raw number -/
theorem next25_any (sb : Nat) (n : Int) (W : World) (h : Src sb W) (hn : 1 ≤ n) (hn2 : n ≤ 4611686018427387904) :
    Calls Tryz.prog 25 #[.pointer (some ⟨sb, 0, none⟩), I n] W fun e w' => (∃ r : Int, e = .returned (I r) ∧ 0 ≤ r ∧ r < n) ∧ SG sb W w' := by
  obtain ⟨v, l, k, hr, hl, hk⟩ := h
  obtain ⟨a0, c0, rfl, hl9, -⟩ := id hl
  obtain ⟨N, hN⟩ : ∃ N, N = l.length := ⟨_, rfl⟩
  rw [← hN] at hl hr hk hl9
  have HR := Lib.hid hr
  have HL := Lib.hid hl
  have HN := Lib.hid hN
  clear hl hN hr
  go_enter Tryz.func25, Tryz.ntmps25
  go_upto_region 1 with (fail)
  refine wp_region_ordW (by kernel_rfl) (fun X => X.cell? ⟨sb, 0, none⟩ = some (.slice a0 N c0) ∧ X.cell? ⟨sb, 1, none⟩ = some (I k)) [(0, 0), (0, 1), (0, 2), (0, 3), (0, 4), (0, 5), (0, 6), (0, 7), (0, 8), (0, 9)] (by kernel_rfl) ?hS ?_
  case hS => intro wd hh; exact ⟨row_at HR.out hh 0, row_at HR.out hh 1⟩
  intro wd hh hgd hS
  have hr1 : Row wd sb 61 [.slice a0 N c0, I k] := HR.out.kept hgd (by simp)
  have hl1 : RSlB (· < sb) 1 RInt wd (.slice a0 N c0) l := HL.out.grown hgd (fun r e => by cases e) (fun _ _ h => h)
  have HG1 := Lib.hid (show W.grownBy wd (some sb) from ⟨hgd.os, hgd.tape, hgd.output, hgd.size, fun i hi _ => hgd.block i hi (by simp)⟩)
  have HR1 := Lib.hid hr1
  have HL1 := Lib.hid hl1
  clear hh hgd hr1 hl1
  simp only [pickOps, List.map_cons, List.map_nil, List.getElem?_cons_zero, List.getElem?_cons_succ, Option.getD_some]
  repeat (first | (refine wpOrd_pass (by rfl) (by assumption) (fun _ _ _ h => h) ?_; simp only [Act.put, List.setIfInBounds_toArray, List.set_cons_zero, List.set_cons_succ]) | (refine wpOrd_look (v := ?_) (by rfl) ?_ (by assumption) (fun _ _ _ h => h) ?_; rotate_left; (· (intro wS hSw; (try dsimp only at hSw); go_simp; (first | done | with_reducible rfl))); simp only [Act.put, List.setIfInBounds_toArray, List.set_cons_zero, List.set_cons_succ]))
  refine wpOrd_nil ?_
  by_cases hlt : k < N
  · have hltz : ¬ (N : Int) ≤ (k : Int) := by omega
    obtain ⟨b, o, C, rfl, hb, hC, hrx⟩ := HL1.out.at (show k < l.length by rw [← HN.out]; exact hlt)
    obtain ⟨x, hx⟩ : ∃ x, x = l[k]'(by rw [← HN.out]; exact hlt) := ⟨_, rfl⟩
    rw [← hx] at hrx
    have e1 := hC 0 (by omega)
    rw [hrx.1] at e1
    simp only [Nat.mul_one, Nat.add_zero] at e1
    have c0' := HR1.out.cell 0
    have c1 := HR1.out.cell 1
    simp only [List.getElem?_cons_zero, List.getElem?_cons_succ] at c0' c1
    have f1 := HR1.out.frozen 1
    have HI := Lib.hid hrx.2
    have HE1 := Lib.hid e1
    clear hC hrx hx e1
    clear hS
    have hp := pickI_nonneg x n hn
    have HPP := Lib.hid hp
    clear hp
    go_upto_region 4 with (fail)
    obtain ⟨w3, hw3⟩ : ∃ w3, w3 = wd.setCell ⟨sb, 1, none⟩ (I ((k : Int) + 1)) := ⟨_, rfl⟩
    have hg3 : wd.grownBy w3 (some sb) := by rw [hw3]; exact setCell_grown _ _ _ _
    have hr3 : Row w3 sb 61 [.slice (some ⟨b, o, none⟩) N c0, I ((k : Int) + 1)] := by rw [hw3]; exact HR1.out.set 1 _
    rw [← hw3]
    have he3 : w3.cell? ⟨b, o + k, none⟩ = some (I x) := gcell HE1.out hg3 (by simp; omega)
    have hl3 : RSlB (· < sb) 1 RInt w3 (.slice (some ⟨b, o, none⟩) N c0) l := HL1.out.grown hg3 (fun r e => by cases e; omega) (fun _ _ h => h)
    have HG3 := Lib.hid (grown_trans HG1.out hg3)
    have HR3 := Lib.hid hr3
    have HE3 := Lib.hid he3
    have HL3 := Lib.hid hl3
    clear hw3 hg3 hr3 he3 hl3 c0' c1 f1
    refine wp_region_ordW (by kernel_rfl) (fun X => X.cell? ⟨sb, 0, none⟩ = some (.slice (some ⟨b, o, none⟩) N c0) ∧ X.cell? ⟨sb, 1, none⟩ = some (I ((k : Int) + 1)) ∧ X.cell? ⟨b, o + k, none⟩ = some (I x)) [(0, 0), (0, 1), (0, 2), (0, 3), (0, 4), (0, 5), (0, 6), (0, 7), (0, 8), (0, 9), (0, 10), (0, 11), (1, 12), (0, 13)] (by kernel_rfl) ?hS4 ?_
    case hS4 => intro wd hh; exact ⟨row_at HR3.out hh 0, row_at HR3.out hh 1, (cell_heap hh _).trans HE3.out⟩
    intro w4 hh hgd hS
    have HR4 := Lib.hid (show Row w4 sb 61 [.slice (some ⟨b, o, none⟩) N c0, I ((k : Int) + 1)] from HR3.out.kept hgd (by simp))
    have HL4 := Lib.hid (show RSlB (· < sb) 1 RInt w4 (.slice (some ⟨b, o, none⟩) N c0) l from HL3.out.grown hgd (fun r e => by cases e) (fun _ _ h => h))
    have HG4 := Lib.hid (grown_trans HG3.out (show w3.grownBy w4 (some sb) from ⟨hgd.os, hgd.tape, hgd.output, hgd.size, fun i hi _ => hgd.block i hi (by simp)⟩))
    have hwk : IntKind.i64.wrap (k : Int) = k := IntWalk.i64_in _ (by omega)
    clear hh hgd
    simp only [pickOps, List.map_cons, List.map_nil, List.getElem?_cons_zero, List.getElem?_cons_succ, Option.getD_some]
    repeat (first | (refine wpOrd_pass (by rfl) (by assumption) (fun _ _ _ h => h) ?_; simp only [Act.put, List.setIfInBounds_toArray, List.set_cons_zero, List.set_cons_succ]) | (refine wpOrd_look (v := ?_) (by rfl) ?_ (by assumption) (fun _ _ _ h => h) ?_; rotate_left; (· (intro wS hSw; (try dsimp only at hSw); go_simp; (first | done | with_reducible rfl))); simp only [Act.put, List.setIfInBounds_toArray, List.set_cons_zero, List.set_cons_succ]))
    refine wpOrd_turn ?_
    go_wp2_with (first
      | (go_at_call 44; refine (pick44_any x n HI.out hn hn2 w4).mono ?_; rintro e w5 ⟨rfl, rfl⟩))
    refine QN_keep hS fun hS => ?_
    repeat (refine wpOrd_look (v := ?_) (by rfl) ?_ (by assumption) (fun _ _ _ h => h) ?_; rotate_left; (· (intro wS hSw; (try dsimp only at hSw); go_simp; (first | done | with_reducible rfl))); simp only [Act.put, List.setIfInBounds_toArray, List.set_cons_zero, List.set_cons_succ])
    refine wpOrd_nil ?_
    clear hS
    go_wp2
    go_ret
    exact ⟨⟨pickI x n, rfl, HPP.out.1, HPP.out.2⟩, HG4.out, _, l, k + 1, HR4.out, HL4.out, by rw [← HN.out]; omega⟩
  · have hltz : (N : Int) ≤ (k : Int) := by omega
    clear hS
    go_wp2
    go_ret
    exact ⟨⟨0, rfl, by omega, by omega⟩, HG1.out, _, l, k, HR1.out, HL1.out, by rw [← HN.out]; exact hk⟩
end Go.Proofs.YtjgbkdbkachciaaGreatDoor

namespace Go.Proofs.YtjgbkdbkachciaaGreatDoor
open Go.RowKit Go.Shelf
attribute [local go_sem] Oper.semAt_some

theorem str_S (x : ByteArray) : ∃ l : Str, (Ending.returned (.string x)) = Ending.returned (S l) := ⟨x.data.toList, by cases x; rfl⟩
def tailsV : List Value := [.string ⟨#[]⟩, .string ⟨#[49]⟩, .string ⟨#[95]⟩, .string ⟨#[90, 57]⟩, .string ⟨#[105, 102]⟩, .string ⟨#[120]⟩, .string ⟨#[48]⟩, .string ⟨#[97, 97]⟩, .string ⟨#[105, 110, 116, 105, 110, 116]⟩, .string ⟨#[113, 55]⟩, .string ⟨#[66]⟩, .string ⟨#[48, 48]⟩]
theorem tails_at {W : World} {g : Nat} (h : Row W g 9 tailsV) {q : Nat} {x : ByteArray} (hq : tailsV[q]? = some (.string x)) : W.cell? ⟨g, q, none⟩ = some (.string x) := by
  rw [h.cell]; exact hq
theorem tails_str {q : Nat} (hq : q < 12) : ∃ x : ByteArray, tailsV[q]? = some (.string x) ∧ x.size ≤ 6 := by
  rcases (by omega : q = 0 ∨ q = 1 ∨ q = 2 ∨ q = 3 ∨ q = 4 ∨ q = 5 ∨ q = 6 ∨ q = 7 ∨ q = 8 ∨ q = 9 ∨ q = 10 ∨ q = 11) with rfl | rfl | rfl | rfl | rfl | rfl | rfl | rfl | rfl | rfl | rfl | rfl <;> exact ⟨_, rfl, by decide⟩
/-- a text of one byte -/
theorem bytes_one {W : World} {g : Nat} {b : Int} (h : Row W g 5 [.int .u8 b]) : (convert 128 9 (.slice (some ⟨g, 0, none⟩) 1 1)).run Tryz.prog W = .ok (.string (strOfNums [b])) W :=
  run_convert_bytes_arg W 128 5 Tryz.underlying128 Tryz.underlying5 g 0 1 1 [b] rfl (fun i hi => by
    obtain rfl : i = 0 := by omega
    rw [h.cell]; rfl) 9 Tryz.underlying9
def OT.l10 : OT := .one 1 10 (.one 1 11 (.one 0 12 .nil))
def OT.l5 : OT := .one 1 5 (.one 1 11 (.one 0 12 .nil))
def OT.v9 : OT := .two 4 10 (.two 5 10 .l10 .l5) (.one 1 4 .l5)
def OT.v46 : OT := .two 4 6 (.two 5 6 (.one 1 6 (.one 0 9 .l10)) (.one 0 9 (.two 5 10 .l10 .l5))) (.one 0 9 .v9)
def OT.var : OT := .one 0 0 (.one 0 1 (.one 0 2 (.one 0 3 (.one 0 7 (.one 0 8 .v46)))))

set_option maxRecDepth 100000 in
set_option maxHeartbeats 4000000 in
/-- a raw name -/
theorem var47_any (r : Int) (h0 : 0 ≤ r) (h1 : r < 312) (W : World) :
    Calls Tryz.prog 47 #[I r] W fun e w' => (∃ x : Str, e = .returned (S x)) ∧ Below W.heap.size W w' := by
  have hp : pickI r 312 = r := by unfold pickI; rw [if_neg (by omega)]; exact Int.emod_eq_of_lt h0 h1
  obtain ⟨q, hq⟩ : ∃ q : Nat, (q : Int) = r / 26 := ⟨(r / 26).toNat, by omega⟩
  have hq12 : q < 12 := by omega
  have hqr : r.tdiv 26 = q := by rw [Int.tdiv_eq_ediv_of_nonneg h0]; exact hq.symm
  have hqz : (q : Int) < 12 := by omega
  obtain ⟨x, hx, hx6⟩ := tails_str hq12
  have HX6 := Lib.hid hx6
  have HPK := Lib.hid (pick79_any r 312 (by unfold InI; omega) (by omega) (by omega) W)
  rw [hp] at HPK
  clear hp hq
  have HX := Lib.hid hx
  clear hx hx6
  go_enter Tryz.func47, Tryz.ntmps47
  go_upto_region 2 with (first
    | (go_at_call 79; refine HPK.out.mono ?_; rintro e w1 ⟨rfl, rfl⟩))
  refine wp_region_ordT (by kernel_rfl) (fun _ => True) OT.var (by kernel_rfl) (fun _ _ => trivial) ?_
  intro wd hh hgd hS
  have HB := Lib.hid (show Below w1.heap.size w1 wd from (Below.refl _ w1).grown hgd (Nat.le_refl _) (fun r e => by cases e))
  have hwk : IntKind.i64.wrap (q : Int) = q := IntWalk.i64_in _ (by omega)
  clear hgd
  repeat (refine wpOrdT_look (v := ?_) rfl (by rfl) ?_ (by assumption) (fun _ _ _ h => h) ?_; rotate_left; (· (intro wS hSw; (try dsimp only at hSw); go_simp; (first | done | with_reducible rfl))); simp only [Act.put, List.setIfInBounds_toArray, List.set_cons_zero, List.set_cons_succ])
  obtain ⟨b, hb⟩ : ∃ b, b = IntKind.u8.wrap (IntKind.i64.wrap (97 + r.tmod 26)) := ⟨_, rfl⟩
  rw [← hb]
  clear hb hh
  have hadd : ∀ w, (Op.stringOp .add (strOfNums [b]) x).run Tryz.prog w = .ok (.string (strOfNums [b] ++ x)) w := fun w => run_string_add_sum (w := w) _ _ (by have := HX6.out; rw [strOfNums_size]; simp; omega)
  have cvA := bytes_one (b := b) (heap_new wd (.cells #[.int .u8 b] 5))
  have cvAB := bytes_one (b := b) (heap_old (wd.alloc (.cells #[.int .u8 b] 5)) (.cells #[.string ⟨#[]⟩, .string ⟨#[49]⟩, .string ⟨#[95]⟩, .string ⟨#[90, 57]⟩, .string ⟨#[105, 102]⟩, .string ⟨#[120]⟩, .string ⟨#[48]⟩, .string ⟨#[97, 97]⟩, .string ⟨#[105, 110, 116, 105, 110, 116]⟩, .string ⟨#[113, 55]⟩, .string ⟨#[66]⟩, .string ⟨#[48, 48]⟩] 9) (heap_new wd (.cells #[.int .u8 b] 5)))
  have cvBA := bytes_one (b := b) (heap_new (wd.alloc (.cells #[.string ⟨#[]⟩, .string ⟨#[49]⟩, .string ⟨#[95]⟩, .string ⟨#[90, 57]⟩, .string ⟨#[105, 102]⟩, .string ⟨#[120]⟩, .string ⟨#[48]⟩, .string ⟨#[97, 97]⟩, .string ⟨#[105, 110, 116, 105, 110, 116]⟩, .string ⟨#[113, 55]⟩, .string ⟨#[66]⟩, .string ⟨#[48, 48]⟩] 9)) (.cells #[.int .u8 b] 5))
  have xB := tails_at (heap_new wd (.cells #[.string ⟨#[]⟩, .string ⟨#[49]⟩, .string ⟨#[95]⟩, .string ⟨#[90, 57]⟩, .string ⟨#[105, 102]⟩, .string ⟨#[120]⟩, .string ⟨#[48]⟩, .string ⟨#[97, 97]⟩, .string ⟨#[105, 110, 116, 105, 110, 116]⟩, .string ⟨#[113, 55]⟩, .string ⟨#[66]⟩, .string ⟨#[48, 48]⟩] 9)) HX.out
  have xBA := tails_at (heap_old (wd.alloc (.cells #[.string ⟨#[]⟩, .string ⟨#[49]⟩, .string ⟨#[95]⟩, .string ⟨#[90, 57]⟩, .string ⟨#[105, 102]⟩, .string ⟨#[120]⟩, .string ⟨#[48]⟩, .string ⟨#[97, 97]⟩, .string ⟨#[105, 110, 116, 105, 110, 116]⟩, .string ⟨#[113, 55]⟩, .string ⟨#[66]⟩, .string ⟨#[48, 48]⟩] 9)) (.cells #[.int .u8 b] 5) (heap_new wd (.cells #[.string ⟨#[]⟩, .string ⟨#[49]⟩, .string ⟨#[95]⟩, .string ⟨#[90, 57]⟩, .string ⟨#[105, 102]⟩, .string ⟨#[120]⟩, .string ⟨#[48]⟩, .string ⟨#[97, 97]⟩, .string ⟨#[105, 110, 116, 105, 110, 116]⟩, .string ⟨#[113, 55]⟩, .string ⟨#[66]⟩, .string ⟨#[48, 48]⟩] 9))) HX.out
  have xAB := tails_at (heap_new (wd.alloc (.cells #[.int .u8 b] 5)) (.cells #[.string ⟨#[]⟩, .string ⟨#[49]⟩, .string ⟨#[95]⟩, .string ⟨#[90, 57]⟩, .string ⟨#[105, 102]⟩, .string ⟨#[120]⟩, .string ⟨#[48]⟩, .string ⟨#[97, 97]⟩, .string ⟨#[105, 110, 116, 105, 110, 116]⟩, .string ⟨#[113, 55]⟩, .string ⟨#[66]⟩, .string ⟨#[48, 48]⟩] 9)) HX.out
  simp only [World.size_alloc] at cvBA xAB
  refine wpOrdT_two rfl rfl ?_ ?_
  · go_wp2
    refine QNT_keep trivial fun _ => ?_
    refine wpOrdT_two rfl rfl ?_ ?_
    · go_wp2
      refine QNT_keep trivial fun _ => ?_
      refine wpOrdT_turn rfl ?_
      go_wp2
      refine QNT_keep trivial fun _ => ?_
      repeat (refine wpOrdT_look (v := ?_) rfl (by rfl) ?_ (by assumption) (fun _ _ _ h => h) ?_; rotate_left; (· (intro wS hSw; (try dsimp only at hSw); go_simp; (first | done | with_reducible rfl))); simp only [Act.put, List.setIfInBounds_toArray, List.set_cons_zero, List.set_cons_succ])
      refine wpOrdT_turn rfl ?_
      go_wp2
      refine QNT_keep trivial fun _ => ?_
      refine wpOrdT_turn rfl ?_
      go_wp2
      refine QNT_keep trivial fun _ => ?_
      repeat (refine wpOrdT_look (v := ?_) rfl (by rfl) ?_ (by assumption) (fun _ _ _ h => h) ?_; rotate_left; (· (intro wS hSw; (try dsimp only at hSw); go_simp; (first | done | with_reducible rfl))); simp only [Act.put, List.setIfInBounds_toArray, List.set_cons_zero, List.set_cons_succ])
      refine wpOrdT_nil ?_
      go_wp2
      go_ret
      exact ⟨str_S _, HB.out.trans (((below_a1 wd _).alloc (by simp) _).mono HB.out.size)⟩
    · go_wp2
      refine QNT_keep trivial fun _ => ?_
      repeat (refine wpOrdT_look (v := ?_) rfl (by rfl) ?_ (by assumption) (fun _ _ _ h => h) ?_; rotate_left; (· (intro wS hSw; (try dsimp only at hSw); go_simp; (first | done | with_reducible rfl))); simp only [Act.put, List.setIfInBounds_toArray, List.set_cons_zero, List.set_cons_succ])
      refine wpOrdT_two rfl rfl ?_ ?_
      · go_wp2
        refine QNT_keep trivial fun _ => ?_
        refine wpOrdT_turn rfl ?_
        go_wp2
        refine QNT_keep trivial fun _ => ?_
        refine wpOrdT_turn rfl ?_
        go_wp2
        refine QNT_keep trivial fun _ => ?_
        repeat (refine wpOrdT_look (v := ?_) rfl (by rfl) ?_ (by assumption) (fun _ _ _ h => h) ?_; rotate_left; (· (intro wS hSw; (try dsimp only at hSw); go_simp; (first | done | with_reducible rfl))); simp only [Act.put, List.setIfInBounds_toArray, List.set_cons_zero, List.set_cons_succ])
        refine wpOrdT_nil ?_
        go_wp2
        go_ret
        exact ⟨str_S _, HB.out.trans (((below_a1 wd _).alloc (by simp) _).mono HB.out.size)⟩
      · go_wp2
        refine QNT_keep trivial fun _ => ?_
        refine wpOrdT_turn rfl ?_
        go_wp2
        refine QNT_keep trivial fun _ => ?_
        refine wpOrdT_turn rfl ?_
        go_wp2
        refine QNT_keep trivial fun _ => ?_
        repeat (refine wpOrdT_look (v := ?_) rfl (by rfl) ?_ (by assumption) (fun _ _ _ h => h) ?_; rotate_left; (· (intro wS hSw; (try dsimp only at hSw); go_simp; (first | done | with_reducible rfl))); simp only [Act.put, List.setIfInBounds_toArray, List.set_cons_zero, List.set_cons_succ])
        refine wpOrdT_nil ?_
        go_wp2
        go_ret
        exact ⟨str_S _, HB.out.trans (((below_a1 wd _).alloc (by simp) _).mono HB.out.size)⟩
  · go_wp2
    refine QNT_keep trivial fun _ => ?_
    repeat (refine wpOrdT_look (v := ?_) rfl (by rfl) ?_ (by assumption) (fun _ _ _ h => h) ?_; rotate_left; (· (intro wS hSw; (try dsimp only at hSw); go_simp; (first | done | with_reducible rfl))); simp only [Act.put, List.setIfInBounds_toArray, List.set_cons_zero, List.set_cons_succ])
    refine wpOrdT_two rfl rfl ?_ ?_
    · go_wp2
      refine QNT_keep trivial fun _ => ?_
      refine wpOrdT_two rfl rfl ?_ ?_
      · go_wp2
        refine QNT_keep trivial fun _ => ?_
        refine wpOrdT_turn rfl ?_
        go_wp2
        refine QNT_keep trivial fun _ => ?_
        refine wpOrdT_turn rfl ?_
        go_wp2
        refine QNT_keep trivial fun _ => ?_
        repeat (refine wpOrdT_look (v := ?_) rfl (by rfl) ?_ (by assumption) (fun _ _ _ h => h) ?_; rotate_left; (· (intro wS hSw; (try dsimp only at hSw); go_simp; (first | done | with_reducible rfl))); simp only [Act.put, List.setIfInBounds_toArray, List.set_cons_zero, List.set_cons_succ])
        refine wpOrdT_nil ?_
        go_wp2
        go_ret
        exact ⟨str_S _, HB.out.trans (((below_a1 wd _).alloc (by simp) _).mono HB.out.size)⟩
      · go_wp2
        refine QNT_keep trivial fun _ => ?_
        refine wpOrdT_turn rfl ?_
        go_wp2
        refine QNT_keep trivial fun _ => ?_
        refine wpOrdT_turn rfl ?_
        go_wp2
        refine QNT_keep trivial fun _ => ?_
        repeat (refine wpOrdT_look (v := ?_) rfl (by rfl) ?_ (by assumption) (fun _ _ _ h => h) ?_; rotate_left; (· (intro wS hSw; (try dsimp only at hSw); go_simp; (first | done | with_reducible rfl))); simp only [Act.put, List.setIfInBounds_toArray, List.set_cons_zero, List.set_cons_succ])
        refine wpOrdT_nil ?_
        go_wp2
        go_ret
        exact ⟨str_S _, HB.out.trans (((below_a1 wd _).alloc (by simp) _).mono HB.out.size)⟩
    · go_wp2
      refine QNT_keep trivial fun _ => ?_
      refine wpOrdT_turn rfl ?_
      go_wp2
      refine QNT_keep trivial fun _ => ?_
      refine wpOrdT_turn rfl ?_
      go_wp2
      refine QNT_keep trivial fun _ => ?_
      refine wpOrdT_turn rfl ?_
      go_wp2
      refine QNT_keep trivial fun _ => ?_
      repeat (refine wpOrdT_look (v := ?_) rfl (by rfl) ?_ (by assumption) (fun _ _ _ h => h) ?_; rotate_left; (· (intro wS hSw; (try dsimp only at hSw); go_simp; (first | done | with_reducible rfl))); simp only [Act.put, List.setIfInBounds_toArray, List.set_cons_zero, List.set_cons_succ])
      refine wpOrdT_nil ?_
      go_wp2
      go_ret
      exact ⟨str_S _, HB.out.trans (((below_a1 wd _).alloc (by simp) _).mono HB.out.size)⟩
end Go.Proofs.YtjgbkdbkachciaaGreatDoor
