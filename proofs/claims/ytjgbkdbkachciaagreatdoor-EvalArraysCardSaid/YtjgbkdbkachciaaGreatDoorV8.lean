import Derived.Test.YtjgbkdbkachciaaGreatDoorV3
import Derived.RangeFuncCalls
import Derived.RangeFuncLeaves
import Derived.Shelf.RegionOpen
import Derived.OwnWalkIn
import Derived.TacticsInMore
import Derived.LoopNIn
import Derived.LoopIn
import Derived.Maps.AppendAt
import Derived.Sort.LoopGhostIn
import Derived.Deep.WholeRow
import Derived.Test.YtjgbkdbkachciaaGreatDoorH0
import Derived.Sort.OwnSorted
namespace Go.Proofs.YtjgbkdbkachciaaGreatDoor
open Go.RowKit Go.Shelf
attribute [local go_sem] Oper.semAt_some

/-- the first that is not 0 -/
def firstI {α : Type} (f : α → Int) : List α → Int
  | [] => 0
  | x :: l => if f x = 0 then firstI f l else f x
theorem firstI_at {α : Type} {f : α → Int} : ∀ {l : List α} {k : Nat} (hk : k < l.length) (_ : ∀ j, (hj : j < k) → f (l[j]'(by omega)) = 0) (_ : f l[k] ≠ 0), firstI f l = f l[k]
  | x :: l, 0, hk, h, ht => by simp only [List.getElem_cons_zero] at ht; rw [firstI, if_neg ht]; rfl
  | x :: l, k + 1, hk, h, ht => by
    have h0 := h 0 (by omega)
    simp only [List.getElem_cons_zero] at h0
    rw [firstI, if_pos h0]
    exact firstI_at (k := k) (by simpa using hk) (fun j hj => by have := h (j + 1) (by omega); simpa using this) (by simpa using ht)
theorem firstI_none {α : Type} {f : α → Int} : ∀ {l : List α} (_ : ∀ j, (hj : j < l.length) → f l[j] = 0), firstI f l = 0
  | [], _ => rfl
  | x :: l, h => by
    have h0 := h 0 (by simp)
    simp only [List.getElem_cons_zero] at h0
    rw [firstI, if_pos h0]
    exact firstI_none fun j hj => by have := h (j + 1) (by simpa using hj); simpa using this
theorem firstI_zero {α : Type} {f : α → Int} {l : List α} (h : ∀ x ∈ l, f x = 0) : firstI f l = 0 := firstI_none fun _j hj => h _ (List.getElem_mem hj)
mutual
def exprJ (p : LP) (vs : List Str) : LE → Int
  | .mk k o n s l => if ownI p vs (.mk k o n s l) = 0 then exprsJ p vs l else ownI p vs (.mk k o n s l)
def exprsJ (p : LP) (vs : List Str) : List LE → Int
  | [] => 0
  | x :: l => if exprJ p vs x = 0 then exprsJ p vs l else exprJ p vs x
end
theorem exprJ_eq (p : LP) (vs : List Str) (e : LE) : exprJ p vs e = if ownI p vs e = 0 then exprsJ p vs e.args else ownI p vs e := by
  cases e; rw [exprJ]; rfl
theorem exprsJ_eq (p : LP) (vs : List Str) : ∀ l : List LE, exprsJ p vs l = firstI (exprJ p vs) l
  | [] => by rw [exprsJ]; rfl
  | x :: l => by rw [exprsJ, firstI, exprsJ_eq p vs l]
abbrev eBz (e : LE) (av : Value) : Array Value := #[I e.kind, I e.op, I e.n, S e.name, av]

set_option maxRecDepth 100000 in
set_option maxHeartbeats 4000000 in
theorem exprs_any : ∀ (d : Nat) (B : Nat → Prop) (w : World) (cb : Nat) (p : LP) (vs : List Str) (l : List LE) (v : Value) (_ : CK B w cb p vs) (_ : RSlB B 5 (RE d B) w v l),
    Calls Tryz.prog 132 #[.pointer (some ⟨cb, 0, none⟩), v] w fun e' w' => e' = .returned (I (exprsJ p vs l)) ∧ Below w.heap.size w w' := by
  intro d
  induction d with
  | zero =>
    intro B w cb p vs l v _ hx
    have hl : l = [] := by
      obtain ⟨a, c, rfl, _, h | ⟨b, o, _, _, h⟩⟩ := hx
      · exact h
      · cases l with
        | nil => rfl
        | cons x l => obtain ⟨C, _, h⟩ := h 0 x rfl; exact h.elim
    subst hl
    obtain ⟨a, c, rfl, -⟩ := hx
    go_enter Tryz.func132, Tryz.ntmps132
    go_upto_region 2 with (fail)
    go_loopg [11] 0 (fun gh i wr => i = I 0 ∧ wr = w)
    case atStart => exact ⟨rfl, rfl⟩
    case round =>
      obtain ⟨rfl, rfl⟩ := hrel
      go_wp2
      go_ret
      exact ⟨by rw [exprsJ]; rfl, Below.refl _ _⟩
  | succ d ih =>
    intro B w cb p vs l v h hx
    obtain ⟨a0, c0, rfl, hlen, -⟩ := id hx
    have HX := Lib.hid hx
    have HC := Lib.hid h
    have HI := Lib.hid ih
    clear hx h ih
    go_enter Tryz.func132, Tryz.ntmps132
    go_upto_region 2 with (fail)
    go_loopg [11] l.length (fun gh i wr => ∃ k : Nat, gh + k = l.length ∧ i = I k ∧ Hid (Below w.heap.size w wr ∧ ∀ j, (hj : j < l.length) → j < k → exprJ p vs l[j] = 0))
    case atStart => exact ⟨0, rfl, rfl, Lib.hid ⟨Below.refl _ _, fun j hj h => absurd h (by omega)⟩⟩
    case round =>
      obtain ⟨k, hg, rfl, HH⟩ := hrel
      obtain ⟨wo, rfl⟩ : ∃ wo, wo = wr := ⟨_, rfl⟩
      have HB := Lib.hid HH.out.1
      by_cases hlt : k < l.length
      · have hltz : (k : Int) < (l.length : Int) := by omega
        obtain ⟨b, o, C, rfl, _, hC, hrx⟩ := (HX.out.below HB.out (fun C x h => RE.grown (d + 1) (below_grown HB.out none) (fun r e => by cases e) h)).at hlt
        obtain ⟨x, hx⟩ : ∃ x, x = l[k] := ⟨_, rfl⟩
        rw [← hx] at hrx
        obtain ⟨h0, h1, h2, h3, h4⟩ := hrx
        obtain ⟨xa, xc, hxv, -⟩ := id h4
        have e0 := hC 0 (by omega)
        have e1 := hC 1 (by omega)
        have e2 := hC 2 (by omega)
        have e3 := hC 3 (by omega)
        have e4 := hC 4 (by omega)
        rw [h0] at e0
        rw [h1] at e1
        rw [h2] at e2
        rw [h3] at e3
        rw [hxv] at e4 h4
        simp only [Nat.add_zero] at e0 e1 e2 e3 e4
        have HXA := Lib.hid h4
        have hck := HC.out.below HB.out
        have HO := Lib.hid (fun W (hh : CK B W cb p vs) => own_any B W cb p vs x (.slice xa x.args.length xc) hh ⟨_, _, rfl⟩)
        have HS := Lib.hid (fun W (hh : CK B W cb p vs) (hr : RSlB B 5 (RE d B) W (.slice xa x.args.length xc) x.args) => HI.out B W cb p vs x.args _ hh hr)
        obtain ⟨q1, hq1⟩ : ∃ q, q = ownI p vs x := ⟨_, rfl⟩
        obtain ⟨q2, hq2⟩ : ∃ q, q = exprsJ p vs x.args := ⟨_, rfl⟩
        have hq3 : exprJ p vs l[k] = if q1 = 0 then q2 else q1 := by rw [← hx, exprJ_eq, hq1, hq2]
        rw [← hq1] at HO
        rw [← hq2] at HS
        have HQ := Lib.hid hq3
        have HCK := Lib.hid hck
        clear hC h0 h1 h2 h3 h4 hxv hx hck hq1 hq2 hq3
        go_upto_region 4 with (first
          | (refine store_first 31 (.tmp 6) (.tmp 14) rfl ?_; refine wpList_store_row rfl 31 (.tmp 6) (.tmp 14) rfl wo.heap.size _ rfl rfl 31 eZ (heap_new _ _) (by kernel_rfl) (by rfl) (by simp [Value.oneCell']) ?_))
        obtain ⟨w3, hw3⟩ : ∃ w3, w3 = (wo.alloc (.cells eZ 31)).setRow wo.heap.size #[I x.kind, I x.op, I x.n, S x.name, .slice xa x.args.length xc] := ⟨_, rfl⟩
        have hb3 : Below wo.heap.size wo w3 := by rw [hw3]; exact (below_a1 wo _).grown setRow_grown (by simp) (fun r e => by cases e; omega)
        have hx3 : Row w3 wo.heap.size 31 [I x.kind, I x.op, I x.n, S x.name, .slice xa x.args.length xc] := by rw [hw3]; exact setRow_heap _ _ _ _ _ _ (heap_new _ _)
        rw [← hw3]
        have c0 := hx3.cell 0
        have c1 := hx3.cell 1
        have c2 := hx3.cell 2
        have c3 := hx3.cell 3
        have c4 := hx3.cell 4
        simp only [List.getElem?_cons_zero, List.getElem?_cons_succ] at c0 c1 c2 c3 c4
        have HB3 := Lib.hid hb3
        have HX3 := Lib.hid hx3
        clear hw3 hb3 hx3 e0 e1 e2 e3 e4
        go_upto_region 5 with (first
          | (go_at_call 185; refine (HO.out _ (HCK.out.below HB3.out)).mono ?_; rintro e' w4 ⟨rfl, hb4⟩; have HB4 := Lib.hid (HB3.out.trans (hb4.mono HB3.out.size)); have hx4 := HX3.out.ext hb4; clear hb4))
        clear c0 c1 c2 c3 c4
        have c4 := hx4.cell 4
        simp only [List.getElem?_cons_zero, List.getElem?_cons_succ] at c4
        clear hx4
        by_cases hz1 : q1 = 0
        · have hn1 : (q1 != 0) = false := by rw [hz1]; rfl
          have HZ1 := Lib.hid hz1
          clear hz1
          go_upto_region 8 with (first
            | (go_at_call 132; refine (HS.out _ (HCK.out.below HB4.out) (HXA.out.grown (below_grown HB4.out none) (fun r e => by cases e) (fun _ _ h => RE.grown d (below_grown HB4.out none) (fun r e => by cases e) h))).mono ?_; rintro e' w5 ⟨rfl, hb5⟩; have HB5 := Lib.hid (HB4.out.trans (hb5.mono HB4.out.size)); clear hb5))
          by_cases hz2 : q2 = 0
          · have hn2 : (q2 != 0) = false := by rw [hz2]; rfl
            have HZ2 := Lib.hid hz2
            clear hz2
            go_wp2
            go_roundg (l.length - (k + 1))
            case measure => omega
            case rel =>
              refine ⟨k + 1, by omega, by go_num, Lib.hid ⟨HB.out.trans (HB5.out.mono HB.out.size), fun j hj hjk => ?_⟩⟩
              by_cases hjk2 : j = k
              · subst hjk2; rw [HQ.out, if_pos HZ1.out]; exact HZ2.out
              · exact HH.out.2 j hj (by omega)
          · have hn2 : (q2 != 0) = true := by rw [bne_iff_ne]; exact hz2
            have HZ2 := Lib.hid hz2
            clear hz2
            go_wp2
            go_ret
            refine ⟨?_, HB.out.trans (HB5.out.mono HB.out.size)⟩
            rw [exprsJ_eq, firstI_at hlt (fun j hj => HH.out.2 j (by omega) hj) (by rw [HQ.out, if_pos HZ1.out]; exact HZ2.out), HQ.out, if_pos HZ1.out]
            rfl
        · have hn1 : (q1 != 0) = true := by rw [bne_iff_ne]; exact hz1
          have HZ1 := Lib.hid hz1
          clear hz1
          go_wp2
          go_ret
          refine ⟨?_, HB.out.trans (HB4.out.mono HB.out.size)⟩
          rw [exprsJ_eq, firstI_at hlt (fun j hj => HH.out.2 j (by omega) hj) (by rw [HQ.out, if_neg HZ1.out]; exact HZ1.out), HQ.out, if_neg HZ1.out]
          rfl
      · have hltz : ¬ (k : Int) < (l.length : Int) := by omega
        go_wp2
        go_ret
        refine ⟨?_, HB.out⟩
        rw [exprsJ_eq, firstI_none (fun j hj => HH.out.2 j hj (by omega))]
        rfl
end Go.Proofs.YtjgbkdbkachciaaGreatDoor

namespace Go.Proofs.YtjgbkdbkachciaaGreatDoor
open Go.RowKit Go.Shelf
attribute [local go_sem] Oper.semAt_some

theorem exprs_yes (B : Nat → Prop) (w : World) (cb : Nat) (p : LP) (vs : List Str) (l : List LE) (v : Value) (h : CK B w cb p vs) (hx : AX B w v l) :
    Calls Tryz.prog 132 #[.pointer (some ⟨cb, 0, none⟩), v] w fun e' w' => e' = .returned (I (exprsJ p vs l)) ∧ Below w.heap.size w w' := by
  obtain ⟨d, hd⟩ := hx
  exact exprs_any d B w cb p vs l v h hd
/-- what is wrong with a statement, but for those in it -/
def stmtO (p : LP) (vs : List Str) (loop : Bool) (s : LS) : Int :=
  if s.kind = 5 ∨ s.kind = 6 then flagE loop 53
  else if s.kind = 1 then flagE (decide (s.name ∈ vs)) 51
  else if s.kind = 2 then flagE (decide (0 ≤ placeA p s.name)) 51
  else 0
def stmtJ (p : LP) (vs : List Str) (loop : Bool) (s : LS) : Int := if stmtO p vs loop s = 0 then exprsJ p vs s.args else stmtO p vs loop s
theorem stmtJ_0 {p : LP} {vs : List Str} {loop : Bool} {s : LS} (h : stmtO p vs loop s = 0) : stmtJ p vs loop s = exprsJ p vs s.args := by unfold stmtJ; rw [if_pos h]
theorem stmtJ_1 {p : LP} {vs : List Str} {loop : Bool} {s : LS} {q : Int} (h : stmtO p vs loop s = q) (hq : q ≠ 0) : stmtJ p vs loop s = q := by unfold stmtJ; rw [h, if_neg hq]

set_option maxRecDepth 100000 in
set_option maxHeartbeats 4000000 in
theorem cstmt_any (B : Nat → Prop) (w : World) (cb : Nat) (p : LP) (vs : List Str) (loop : Bool) (s : LS) (av tv ev : Value) (h : CK B w cb p vs) (ha : AX B w av s.args) :
    Calls Tryz.prog 91 #[.pointer (some ⟨cb, 0, none⟩), sV s av tv ev, .bool loop] w fun e' w' => e' = .returned (I (stmtJ p vs loop s)) ∧ Below w.heap.size w w' := by
  obtain ⟨aa, ac, rfl⟩ := ha.slice
  obtain ⟨al, hal⟩ : ∃ n, n = (LE.mk 0 0 0 [] s.args).args.length := ⟨_, rfl⟩
  rw [← hal] at ha ⊢
  obtain ⟨k, hk⟩ : ∃ k, k = s.kind := ⟨_, rfl⟩
  obtain ⟨nm, hnm⟩ : ∃ k, k = s.name := ⟨_, rfl⟩
  show Calls Tryz.prog 91 #[.pointer (some ⟨cb, 0, none⟩), .agg #[I s.kind, S s.name, .slice aa al ac, tv, ev], .bool loop] w _
  rw [← hk, ← hnm]
  have hb1 := below_a1 w (.cells #[I k, S nm, .slice aa al ac, tv, ev] 54)
  have hr := (show Row (w.alloc (.cells #[I k, S nm, .slice aa al ac, tv, ev] 54)) w.heap.size 54 [I k, S nm, .slice aa al ac, tv, ev] from heap_new _ _)
  obtain ⟨w0, hw0⟩ : ∃ w0, w0 = w.alloc (.cells #[I k, S nm, .slice aa al ac, tv, ev] 54) := ⟨_, rfl⟩
  have hwe := hw0.symm
  rw [← hw0] at hr hb1
  have HB1 := Lib.hid hb1
  have HC := Lib.hid (h.below hb1)
  have HA := Lib.hid (EX.grown ha (below_grown hb1 none) (fun r e => by cases e))
  have HR := Lib.hid hr
  obtain ⟨q, hq⟩ : ∃ q, q = exprsJ p vs s.args := ⟨_, rfl⟩
  have HEX := Lib.hid (fun W (hh : Below w0.heap.size w0 W) => exprs_yes B W cb p vs s.args (.slice aa al ac) (HC.out.below hh) (EX.grown HA.out (below_grown hh none) (fun r e => by cases e)))
  rw [← hq] at HEX
  have HQ := Lib.hid hq
  have HK := Lib.hid hk
  have HN := Lib.hid hnm
  have c0 := hr.cell 0
  have c1 := hr.cell 1
  have c2 := hr.cell 2
  simp only [List.getElem?_cons_zero, List.getElem?_cons_succ] at c0 c1 c2
  clear h ha hb1 hw0 hr hq hk hnm hal
  by_cases h5 : k = 5 ∨ k = 6
  · obtain ⟨q1, hq1⟩ : ∃ q, q = flagE loop 53 := ⟨_, rfl⟩
    have hv : stmtO p vs loop s = q1 := by unfold stmtO; rw [if_pos (by rw [← HK.out]; exact h5), hq1]
    have HF := Lib.hid (fun W => flag_any loop 53 W)
    rw [← hq1] at HF
    have HV := Lib.hid hv
    clear hv hq1
    rcases h5 with rfl | rfl
    all_goals
      have HBQ := Lib.hid (Below.refl w0.heap.size w0)
      go_enter Tryz.func91, Tryz.ntmps91
      go_upto_region 10 with (first
        | (go_at_call 129; refine (HF.out _).mono ?_; rintro e' w2 ⟨rfl, rfl⟩))
      by_cases hz : q1 = 0
      · have hn : (q1 != 0) = false := by rw [hz]; rfl
        have HZ := Lib.hid hz
        clear hz
        go_wp2_with (first
          | (go_at_call 132; refine (HEX.out _ HBQ.out).mono ?_; rintro e' w5 ⟨rfl, hb5⟩; have HB5 := Lib.hid ((HB1.out.trans (HBQ.out.mono HB1.out.size)).trans (hb5.mono (Nat.le_trans HB1.out.size HBQ.out.size))); clear hb5))
        go_ret
        refine ⟨?_, HB5.out⟩
        rw [stmtJ_0 (by rw [HV.out, HZ.out]), ← HQ.out]
        rfl
      · have hn : (q1 != 0) = true := by rw [bne_iff_ne]; exact hz
        have HZ := Lib.hid hz
        clear hz
        go_wp2
        go_ret
        refine ⟨?_, HB1.out.trans (HBQ.out.mono HB1.out.size)⟩
        rw [stmtJ_1 HV.out HZ.out]
        rfl
  have n5 : (k == 5) = false := beq_eq_false_iff_ne.2 (fun h => h5 (.inl h))
  have n6 : (k == 6) = false := beq_eq_false_iff_ne.2 (fun h => h5 (.inr h))
  have H5 := Lib.hid h5
  clear h5
  by_cases h1 : k = 1
  · obtain ⟨q1, hq1⟩ : ∃ q, q = flagE (decide (nm ∈ vs)) 51 := ⟨_, rfl⟩
    have hv : stmtO p vs loop s = q1 := by unfold stmtO; rw [if_neg (by rw [← HK.out]; exact H5.out), if_pos (by rw [← HK.out]; exact h1), hq1, HN.out]
    have HV := Lib.hid hv
    have HKN := Lib.hid (known_any B w0 cb p vs nm HC.out)
    obtain ⟨g, hg⟩ : ∃ g, g = decide (nm ∈ vs) := ⟨_, rfl⟩
    rw [← hg] at HKN hq1
    have HF := Lib.hid (fun W => flag_any g 51 W)
    rw [← hq1] at HF
    clear hv hq1 hg
    all_goals
      subst h1
      have HBQ := Lib.hid (Below.refl w0.heap.size w0)
      go_enter Tryz.func91, Tryz.ntmps91
      go_upto_region 10 with (first
        | (go_at_call 130; refine HKN.out.mono ?_; rintro e' w2 ⟨rfl, rfl⟩)
        | (go_at_call 129; refine (HF.out _).mono ?_; rintro e' w2 ⟨rfl, rfl⟩))
      by_cases hz : q1 = 0
      · have hn : (q1 != 0) = false := by rw [hz]; rfl
        have HZ := Lib.hid hz
        clear hz
        go_wp2_with (first
          | (go_at_call 132; refine (HEX.out _ HBQ.out).mono ?_; rintro e' w5 ⟨rfl, hb5⟩; have HB5 := Lib.hid ((HB1.out.trans (HBQ.out.mono HB1.out.size)).trans (hb5.mono (Nat.le_trans HB1.out.size HBQ.out.size))); clear hb5))
        go_ret
        refine ⟨?_, HB5.out⟩
        rw [stmtJ_0 (by rw [HV.out, HZ.out]), ← HQ.out]
        rfl
      · have hn : (q1 != 0) = true := by rw [bne_iff_ne]; exact hz
        have HZ := Lib.hid hz
        clear hz
        go_wp2
        go_ret
        refine ⟨?_, HB1.out.trans (HBQ.out.mono HB1.out.size)⟩
        rw [stmtJ_1 HV.out HZ.out]
        rfl
  have n1 : (k == 1) = false := beq_eq_false_iff_ne.2 h1
  have H1 := Lib.hid h1
  clear h1
  by_cases h2 : k = 2
  · obtain ⟨q1, hq1⟩ : ∃ q, q = flagE (decide (0 ≤ placeA p nm)) 51 := ⟨_, rfl⟩
    have hv : stmtO p vs loop s = q1 := by unfold stmtO; rw [if_neg (by rw [← HK.out]; exact H5.out), if_neg (by rw [← HK.out]; exact H1.out), if_pos (by rw [← HK.out]; exact h2), hq1, HN.out]
    have HV := Lib.hid hv
    have HKN := Lib.hid (carray_any B w0 cb p vs nm HC.out)
    obtain ⟨g, hg⟩ : ∃ g, g = decide (0 ≤ placeA p nm) := ⟨_, rfl⟩
    rw [← hg] at HKN hq1
    have HF := Lib.hid (fun W => flag_any g 51 W)
    rw [← hq1] at HF
    clear hv hq1 hg
    all_goals
      subst h2
      go_enter Tryz.func91, Tryz.ntmps91
      go_upto_region 10 with (first
        | (go_at_call 131; refine HKN.out.mono ?_; rintro e' w2 ⟨rfl, hb2⟩; have HBQ := Lib.hid hb2; have hr2 := HR.out.ext hb2; clear hb2)
        | (go_at_call 129; refine (HF.out _).mono ?_; rintro e' w3 ⟨rfl, rfl⟩))
      clear c0 c1 c2
      have c2 := hr2.cell 2
      simp only [List.getElem?_cons_zero, List.getElem?_cons_succ] at c2
      clear hr2
      by_cases hz : q1 = 0
      · have hn : (q1 != 0) = false := by rw [hz]; rfl
        have HZ := Lib.hid hz
        clear hz
        go_wp2_with (first
          | (go_at_call 132; refine (HEX.out _ HBQ.out).mono ?_; rintro e' w5 ⟨rfl, hb5⟩; have HB5 := Lib.hid ((HB1.out.trans (HBQ.out.mono HB1.out.size)).trans (hb5.mono (Nat.le_trans HB1.out.size HBQ.out.size))); clear hb5))
        go_ret
        refine ⟨?_, HB5.out⟩
        rw [stmtJ_0 (by rw [HV.out, HZ.out]), ← HQ.out]
        rfl
      · have hn : (q1 != 0) = true := by rw [bne_iff_ne]; exact hz
        have HZ := Lib.hid hz
        clear hz
        go_wp2
        go_ret
        refine ⟨?_, HB1.out.trans (HBQ.out.mono HB1.out.size)⟩
        rw [stmtJ_1 HV.out HZ.out]
        rfl
  have n2 : (k == 2) = false := beq_eq_false_iff_ne.2 h2
  have hv : stmtO p vs loop s = 0 := by unfold stmtO; rw [if_neg (by rw [← HK.out]; exact H5.out), if_neg (by rw [← HK.out]; exact H1.out), if_neg (by rw [← HK.out]; exact h2)]
  have HV := Lib.hid hv
  clear hv h2
  go_enter Tryz.func91, Tryz.ntmps91
  go_wp2_with (first
    | (go_at_call 132; refine (HEX.out _ (Below.refl _ _)).mono ?_; rintro e' w5 ⟨rfl, hb5⟩; have HB5 := Lib.hid (HB1.out.trans (hb5.mono HB1.out.size)); clear hb5))
  go_ret
  refine ⟨?_, HB5.out⟩
  rw [stmtJ_0 HV.out, ← HQ.out]
  rfl
end Go.Proofs.YtjgbkdbkachciaaGreatDoor

namespace Go.Proofs.YtjgbkdbkachciaaGreatDoor
open Go.RowKit Go.Shelf
attribute [local go_sem] Oper.semAt_some

/-- a whole struct stored, within a fence -/
theorem wpListIn_store_row {F : Fence} {n : Nat} {P : Program} {ops : Array Oper} {rest : List Oper} {o : Oper} {a : Act} {w : World} {Q : Exit → Act → World → Prop} (hgd : o.guard = none) (ty : TypeId) (x y : Operand) (ho : o.op = .store ty x y)
    (g : Nat) (cells : Array Value) (hx : a.eval x = .pointer (some ⟨g, 0, none⟩)) (hy : a.eval y = .agg cells)
    (t : TypeId) (old : Array Value) (hg : w.heap[g]? = some (.cells old t (0, 0))) (hi : (P.info? ty).map (·.size) = some cells.size)
    (hold : old.size = cells.size) (h1 : cells.all (·.oneCell') = true)
    (h : wpListIn F n P ops Q rest (a.put o.dst undef) (w.setRow g cells)) : wpListIn F n P ops Q (o :: rest) a w := by
  refine wpListIn_plain hgd fun K' hK' => ?_
  unfold Oper.wpIn
  refine ⟨by simp [Oper.about, ho], ?_⟩
  rw [Oper.semAt_plain F _ _ (by rw [ho]; intro c hc'; cases hc')]
  simp only [execOp, ho, hx, hy, Instr.storeAt, Instr.sureAddr, Sem.run_bind, Sem.run_pure, Result.andThen_ok, run_storeVar_row w g t ty old cells hg hi hold h1]
  exact hK' _ _ h
theorem storeIn_first {F : Fence} {n : Nat} {P : Program} {ops : Array Oper} {rest : List Oper} {o : Oper} {a : Act} {w : World} {Q : Exit → Act → World → Prop} (ty : TypeId) (x y : Operand) (_ : o.op = .store ty x y) (h : wpListIn F n P ops Q (o :: rest) a w) : wpListIn F n P ops Q (o :: rest) a w := h
theorem roomW (k : Nat) : Fence.wide.room k := fun d h => by cases h
/-- where no depth is asked the figures are all one -/
theorem yieldW {m : Nat} (m' : Nat) {P : Program} {l : Nat} {args : Array Value} {W : World} {R : Ending → World → Prop} (h : YieldAt Fence.wide m P l args W R) : YieldAt Fence.wide m' P l args W R := by
  obtain ⟨fn, tmps, assign, body, hy, hR⟩ := h
  exact ⟨fn, tmps, assign, body, hy, hR.1, fun c cs _ => hR.2 c cs (roomW _)⟩

mutual
/-- statements and those in them, each with whether it is in a loop -/
def flatS (loop : Bool) : LS → List (LS × Bool)
  | .mk k n a t e => (.mk k n a t e, loop) :: (flatSs (loop || k == 4) t ++ flatSs loop e)
def flatSs (loop : Bool) : List LS → List (LS × Bool)
  | [] => []
  | x :: l => flatS loop x ++ flatSs loop l
end
theorem flatS_eq (loop : Bool) (s : LS) : flatS loop s = (s, loop) :: (flatSs (loop || s.kind == 4) s.thn ++ flatSs loop s.els) := by
  cases s; rw [flatS]; rfl
theorem flatSs_app (loop : Bool) : ∀ (a b : List LS), flatSs loop (a ++ b) = flatSs loop a ++ flatSs loop b
  | [], b => by rw [flatSs]; rfl
  | x :: a, b => by rw [List.cons_append, flatSs, flatSs, flatSs_app loop a b, List.append_assoc]
theorem flatSs_take {loop : Bool} {l : List LS} {k : Nat} (hk : k < l.length) : flatSs loop (l.take (k + 1)) = flatSs loop (l.take k) ++ flatS loop l[k] := by
  rw [List.take_succ_eq_append_getElem hk, flatSs_app, flatSs, flatSs, List.append_nil]
theorem flatSs_pre {loop : Bool} {l : List LS} {k : Nat} (hk : k < l.length) {q : List (LS × Bool)} (hq : q <+: flatS loop l[k]) : flatSs loop (l.take k) ++ q <+: flatSs loop l := by
  have h1 : flatSs loop (l.take (k + 1)) <+: flatSs loop l := by
    refine ⟨flatSs loop (l.drop (k + 1)), ?_⟩
    rw [← flatSs_app, List.take_append_drop]
  rw [flatSs_take hk] at h1
  exact (List.prefix_append_right_inj _ |>.2 hq).trans h1

/-- what a round of a walk through statements is handed -/
structure SIt (B : Nat → Prop) (W0 : World) where
  s : LS
  av : Value
  tv : Value
  ev : Value
  loop : Bool
  ok : AX B W0 av s.args
  isSl : ∃ a n c, tv = .slice a n c
  isSl2 : ∃ a n c, ev = .slice a n c
abbrev SIt.key {B : Nat → Prop} {W0 : World} (x : SIt B W0) : LS × Bool := (x.s, x.loop)
abbrev encIt {B : Nat → Prop} {W0 : World} (x : SIt B W0) : Array Value := #[sV x.s x.av x.tv x.ev, .bool x.loop]
/-- what a round keeps: what lay below, and all cells but one block's -/
def KpN (n₀ nb : Nat) (W W' : World) : Prop := Below n₀ W W' ∧ ∀ b o, b ≠ nb → W.heap[b]? = some o → o.isCells = true → W'.heap[b]? = some o
theorem KpN.refl (n₀ nb : Nat) (W : World) : KpN n₀ nb W W := ⟨Below.refl _ _, fun _ _ _ h _ => h⟩
theorem KpN.trans {n₀ nb : Nat} {A B C : World} (h : KpN n₀ nb A B) (k : KpN n₀ nb B C) : KpN n₀ nb A C := ⟨h.1.trans k.1, fun b o hb ho hc => k.2 b o hb (h.2 b o hb ho hc) hc⟩
theorem KpN.alloc {n₀ nb : Nat} (W : World) (o : Obj) (hn : n₀ ≤ W.heap.size) : KpN n₀ nb W (W.alloc o) := ⟨(Below.refl _ _).alloc hn _, fun _b _o' _ h _ => heap_old _ _ h⟩
theorem KpN.row {n₀ nb : Nat} {A B : World} (h : KpN n₀ nb A B) {g : Nat} {t : TypeId} {cs : List Value} (hr : Row A g t cs) (hg : g ≠ nb) : Row B g t cs := h.2 g _ hg hr rfl

set_option maxRecDepth 100000 in
set_option maxHeartbeats 8000000 in
theorem walk_in (l N n₀ nb : Nat) (B : Nat → Prop) (W0 : World) (hn0 : n₀ = W0.heap.size) (J Jx : List (SIt B W0) → World → Prop) (base : Nat) (hJ : AbidesFrom base J)
    (hY : ∀ m pre x W, J pre W → pre.length < N → YieldAt Fence.wide m Tryz.prog l (encIt x) W fun e W' =>
      (e = .returned (.bool true) ∧ J (pre ++ [x]) W' ∧ KpN n₀ nb W W') ∨ (e = .returned (.bool false) ∧ Jx (pre ++ [x]) W')) :
    ∀ (d n : Nat) (ls : List LS) (loop : Bool) (v : Value) (pre : List (SIt B W0)) (W : World), RSlB B 5 (RS d B) W0 v ls → J pre W → Below n₀ W0 W → nb < W.heap.size → pre.length + (flatSs loop ls).length ≤ N →
      CallsIn Fence.wide n Tryz.prog 128 #[v, .bool loop, .func (.yield l) #[] #[]] W fun e W' =>
        (e = .returned (.bool true) ∧ ∃ ys, ys.map SIt.key = flatSs loop ls ∧ J (pre ++ ys) W' ∧ KpN n₀ nb W W') ∨ (e = .returned (.bool false) ∧ ∃ ys, ys.map SIt.key <+: flatSs loop ls ∧ Jx (pre ++ ys) W') := by
  intro d
  induction d with
  | zero =>
    intro n ls loop v pre W hv hj hb hnb hN
    have hl : ls = [] := by
      obtain ⟨a, c, rfl, _, h | ⟨b, o, _, _, h⟩⟩ := hv
      · exact h
      · cases ls with
        | nil => rfl
        | cons x l => obtain ⟨C, _, h⟩ := h 0 x rfl; exact h.elim
    subst hl
    obtain ⟨a, c, rfl, -⟩ := hv
    have HJ := Lib.hid hj
    clear hj hY hJ hN
    refine callsIn_of_wp Tryz.func128 rfl trivial ?_ rfl
    simp only [Tryz.ntmps128, List.size_toArray, List.length_cons, List.length_nil, Nat.reduceAdd, Nat.reduceSub, Array.replicate_succ, Array.replicate_zero, List.push_toArray, List.append_toArray, List.nil_append, List.cons_append]
    gi_wp2
    gi_loopg [11] 0 (fun gh i wr => i = I 0 ∧ wr = W)
    case atStart => exact ⟨rfl, rfl⟩
    case round =>
      obtain ⟨rfl, rfl⟩ := hrel
      gi_wp2
      go_ret
      exact .inl ⟨rfl, [], by simp [flatSs], by simpa using HJ.out, KpN.refl _ _ _⟩
  | succ d ih =>
    intro n ls loop v pre W hv hj hb hnb hN
    obtain ⟨a0, c0, rfl, hlen, -⟩ := id hv
    have hdd : ∀ k : Nat, (Fence.wide.depth.isSome = true → 1 ≤ k) := fun k h => by cases h
    have HV := Lib.hid hv
    have HJ := Lib.hid hj
    have HB := Lib.hid hb
    have HN := Lib.hid hN
    have HY := Lib.hid hY
    have HAB := Lib.hid hJ
    have HIH := Lib.hid ih
    have HN0 := Lib.hid hn0
    clear hv hj hb hN hY hJ ih hn0
    refine callsIn_of_wp Tryz.func128 rfl trivial ?_ rfl
    simp only [Tryz.ntmps128, List.size_toArray, List.length_cons, List.length_nil, Nat.reduceAdd, Nat.reduceSub, Array.replicate_succ, Array.replicate_zero, List.push_toArray, List.append_toArray, List.nil_append, List.cons_append]
    gi_wp2
    gi_loopg [11] ls.length (fun gh i wr => ∃ (k : Nat) (ys : List (SIt B W0)), gh + k = ls.length ∧ i = I k ∧ Hid (ys.map SIt.key = flatSs loop (ls.take k) ∧ J (pre ++ ys) wr ∧ KpN n₀ nb W wr))
    case atStart => exact ⟨0, [], rfl, rfl, Lib.hid ⟨by simp [flatSs], by simpa using HJ.out, KpN.refl _ _ _⟩⟩
    case round =>
      obtain ⟨k, ys, hg, rfl, HH⟩ := hrel
      obtain ⟨wo, rfl⟩ : ∃ wo, wo = wr := ⟨_, rfl⟩
      by_cases hlt : k < ls.length
      · have hltz : (k : Int) < (ls.length : Int) := by omega
        have hbo : Below n₀ W0 wo := HB.out.trans HH.out.2.2.1
        obtain ⟨b, o, C, rfl, _, hC, hrx⟩ := HV.out.at hlt
        obtain ⟨s, hs⟩ : ∃ s, s = ls[k] := ⟨_, rfl⟩
        rw [← hs] at hrx
        obtain ⟨h0, h1, h2, h3, h4⟩ := hrx
        have hce : ∀ j, j < 5 → wo.cell? ⟨b, o + k * 5 + j, none⟩ = some (C j) := fun j hj => (hbo.cell (by rw [HN0.out]; exact World.block_lt_of_cell? W0 _ (hC j hj))).trans (hC j hj)
        obtain ⟨xa, xc, hxv⟩ := h2.slice
        obtain ⟨ta, tc, htv, -⟩ := id h3
        obtain ⟨ea, ec, hev, -⟩ := id h4
        obtain ⟨al, hal⟩ : ∃ n, n = (LE.mk 0 0 0 [] s.args).args.length := ⟨_, rfl⟩
        rw [← hal] at hxv
        have e0 := hce 0 (by omega)
        have e1 := hce 1 (by omega)
        have e2 := hce 2 (by omega)
        have e3 := hce 3 (by omega)
        have e4 := hce 4 (by omega)
        rw [h0] at e0
        rw [h1] at e1
        rw [hxv] at e2 h2
        rw [htv] at e3 h3
        rw [hev] at e4 h4
        simp only [Nat.add_zero] at e0 e1 e2 e3 e4
        obtain ⟨it, hit⟩ : ∃ it : SIt B W0, it = ⟨s, .slice xa al xc, .slice ta s.thn.length tc, .slice ea s.els.length ec, loop, h2, ⟨_, _, _, rfl⟩, ⟨_, _, _, rfl⟩⟩ := ⟨_, rfl⟩
        have hkey : it.key = (s, loop) := by rw [hit]
        have henc : encIt it = #[.agg #[I s.kind, S s.name, .slice xa al xc, .slice ta s.thn.length tc, .slice ea s.els.length ec], .bool loop] := by rw [hit]
        have hfl : flatSs loop (ls.take (k + 1)) = flatSs loop (ls.take k) ++ flatS loop s := by rw [hs]; exact flatSs_take hlt
        have hfp : ∀ q, q <+: flatS loop s → flatSs loop (ls.take k) ++ q <+: flatSs loop ls := fun q hq => flatSs_pre hlt (by rw [← hs]; exact hq)
        have hlenf : ys.length + (flatS loop s).length ≤ (flatSs loop ls).length := by
          have h1 := (hfp _ (List.prefix_refl _)).length_le
          have h2 := congrArg List.length HH.out.1
          simp only [List.length_append, List.length_map] at h1 h2
          omega
        rw [flatS_eq] at hfl hfp hlenf
        simp only [List.length_append, List.length_cons] at hlenf
        have hz : W.heap.size ≤ wo.heap.size := HH.out.2.2.1.size
        obtain ⟨w3, hw3⟩ : ∃ w3, w3 = wo.alloc (.cells #[I s.kind, S s.name, .slice xa al xc, .slice ta s.thn.length tc, .slice ea s.els.length ec] 54) := ⟨_, rfl⟩
        have hr3 : Row w3 wo.heap.size 54 [I s.kind, S s.name, .slice xa al xc, .slice ta s.thn.length tc, .slice ea s.els.length ec] := by rw [hw3]; exact heap_new _ _
        have hj3 : J (pre ++ ys) w3 := by rw [hw3]; exact HAB.out _ _ _ none HH.out.2.1 (alloc_grown _ _ none) (fun r e => by cases e)
        have hk3 : KpN n₀ nb W w3 := by rw [hw3]; exact HH.out.2.2.trans (KpN.alloc _ _ (by rw [HN0.out]; exact hbo.size))
        have HR3 := Lib.hid hr3
        have HK3 := Lib.hid hk3
        have hNN : pre.length + (flatSs loop ls).length ≤ N := HN.out
        have hlt3 : (pre ++ ys).length < N := by rw [List.length_append]; omega
        have hy := HY.out (n - 1) (pre ++ ys) it w3 hj3 hlt3
        clear hNN hlt3
        rw [henc] at hy
        obtain ⟨fn, tmps, assign, body, hyy, hR⟩ := hy
        have hc0 := hr3.cell 0
        have hc1 := hr3.cell 1
        have hc2 := hr3.cell 2
        have hc3 := hr3.cell 3
        have hc4 := hr3.cell 4
        simp only [List.getElem?_cons_zero, List.getElem?_cons_succ] at hc0 hc1 hc2 hc3 hc4
        have HT3 := Lib.hid h3
        have HT4 := Lib.hid h4
        have HKEY := Lib.hid hkey
        have HFL := Lib.hid hfl
        have HFP := Lib.hid hfp
        have HLF := Lib.hid hlenf
        have HW3 := Lib.hid hw3
        have hgz : wo.heap.size ≠ nb := by omega
        obtain ⟨kb, hkb⟩ : ∃ kb, (s.kind == 4) = kb := ⟨_, rfl⟩
        rw [hkb] at HFL HFP HLF
        clear h0 h1 h2 h3 h4 hC hce hxv htv hev hal hit hkey henc hfl hfp hlenf hw3 hr3 hj3 hk3 hs hbo
        have hels : ∀ (W5 : World) (ys1 : List (SIt B W0)), J (pre ++ (ys ++ it :: ys1)) W5 → KpN n₀ nb W W5 → ys1.map SIt.key = flatSs (loop || kb) s.thn →
            CallsIn Fence.wide (n - 1) Tryz.prog 128 #[.slice ea s.els.length ec, .bool loop, .func (.yield l) #[] #[]] W5 fun e W6 =>
              (e = .returned (.bool true) ∧ Hid (∃ ys3 : List (SIt B W0), ys3.map SIt.key = flatSs loop (ls.take (k + 1)) ∧ J (pre ++ ys3) W6 ∧ KpN n₀ nb W W6)) ∨
              (e = .returned (.bool false) ∧ Hid (∃ q : List (SIt B W0), q.map SIt.key <+: flatSs loop ls ∧ Jx (pre ++ q) W6)) := fun W5 ys1 hj5 hk5 hm5 => by
          have hl5 := congrArg List.length hm5
          simp only [List.length_map] at hl5
          refine (HIH.out (n - 1) s.els loop _ (pre ++ (ys ++ it :: ys1)) W5 HT4.out hj5 (HB.out.trans hk5.1) (by have := hk5.1.size; omega) (by
            have := HN.out; have := HLF.out; simp only [List.length_append, List.length_cons]; omega)).mono ?_
          rintro e W6 (⟨rfl, ys2, hm6, hj6, hk6⟩ | ⟨rfl, q, hq, hj6⟩)
          · refine .inl ⟨rfl, Lib.hid ⟨ys ++ it :: (ys1 ++ ys2), ?_, ?_, hk5.trans hk6⟩⟩
            · rw [HFL.out, List.map_append, List.map_cons, List.map_append, HH.out.1, hm5, hm6, HKEY.out]
            · have : pre ++ (ys ++ it :: (ys1 ++ ys2)) = pre ++ (ys ++ it :: ys1) ++ ys2 := by simp
              rw [this]; exact hj6
          · refine .inr ⟨rfl, Lib.hid ⟨ys ++ it :: (ys1 ++ q), ?_, ?_⟩⟩
            · rw [List.map_append, List.map_cons, List.map_append, HH.out.1, hm5, HKEY.out]
              refine HFP.out _ ?_
              rw [List.cons_prefix_cons]
              exact ⟨rfl, (List.prefix_append_right_inj _).2 hq⟩
            · have : pre ++ (ys ++ it :: (ys1 ++ q)) = pre ++ (ys ++ it :: ys1) ++ q := by simp
              rw [this]; exact hj6
        have hthn : ∀ (W4 : World), J (pre ++ (ys ++ [it])) W4 → KpN n₀ nb W W4 → Row W4 wo.heap.size 54 [I s.kind, S s.name, .slice xa al xc, .slice ta s.thn.length tc, .slice ea s.els.length ec] →
            CallsIn Fence.wide (n - 1) Tryz.prog 128 #[.slice ta s.thn.length tc, .bool (loop || kb), .func (.yield l) #[] #[]] W4 fun e W5 =>
              (e = .returned (.bool true) ∧ W5.cell? ⟨wo.heap.size, 4, none⟩ = some (.slice ea s.els.length ec) ∧ CallsIn Fence.wide (n - 1) Tryz.prog 128 #[.slice ea s.els.length ec, .bool loop, .func (.yield l) #[] #[]] W5 fun e W6 =>
                (e = .returned (.bool true) ∧ Hid (∃ ys3 : List (SIt B W0), ys3.map SIt.key = flatSs loop (ls.take (k + 1)) ∧ J (pre ++ ys3) W6 ∧ KpN n₀ nb W W6)) ∨
                (e = .returned (.bool false) ∧ Hid (∃ q : List (SIt B W0), q.map SIt.key <+: flatSs loop ls ∧ Jx (pre ++ q) W6))) ∨
              (e = .returned (.bool false) ∧ Hid (∃ q : List (SIt B W0), q.map SIt.key <+: flatSs loop ls ∧ Jx (pre ++ q) W5)) := fun W4 hj4 hk4 hr4 => by
          refine (HIH.out (n - 1) s.thn (loop || kb) _ (pre ++ (ys ++ [it])) W4 HT3.out hj4 (HB.out.trans hk4.1) (by have := hk4.1.size; omega) (by
            have := HN.out; have := HLF.out; simp only [List.length_append, List.length_cons, List.length_nil]; omega)).mono ?_
          rintro e W5 (⟨rfl, ys1, hm5, hj5, hk5⟩ | ⟨rfl, q, hq, hj5⟩)
          · refine .inl ⟨rfl, ?_, hels W5 ys1 (by have : pre ++ (ys ++ it :: ys1) = pre ++ (ys ++ [it]) ++ ys1 := by simp
                                                  rw [this]; exact hj5) (hk4.trans hk5) hm5⟩
            exact ((hk5.row hr4 hgz).cell 4).trans rfl
          · refine .inr ⟨rfl, Lib.hid ⟨ys ++ it :: q, ?_, ?_⟩⟩
            · rw [List.map_append, List.map_cons, HH.out.1, HKEY.out]
              refine HFP.out _ ?_
              rw [List.cons_prefix_cons]
              exact ⟨rfl, hq.trans (List.prefix_append _ _)⟩
            · have : pre ++ (ys ++ it :: q) = pre ++ (ys ++ [it]) ++ q := by simp
              rw [this]; exact hj5
        have hR2 : RoundIn Fence.wide (n - 1) Tryz.prog l fn tmps assign body w3 fun e W4 =>
            (e = .returned (.bool true) ∧ W4.cell? ⟨wo.heap.size, 0, none⟩ = some (I s.kind) ∧ W4.cell? ⟨wo.heap.size, 3, none⟩ = some (.slice ta s.thn.length tc) ∧ CallsIn Fence.wide (n - 1) Tryz.prog 128 #[.slice ta s.thn.length tc, .bool (loop || kb), .func (.yield l) #[] #[]] W4 fun e W5 =>
              (e = .returned (.bool true) ∧ W5.cell? ⟨wo.heap.size, 4, none⟩ = some (.slice ea s.els.length ec) ∧ CallsIn Fence.wide (n - 1) Tryz.prog 128 #[.slice ea s.els.length ec, .bool loop, .func (.yield l) #[] #[]] W5 fun e W6 =>
                (e = .returned (.bool true) ∧ Hid (∃ ys3 : List (SIt B W0), ys3.map SIt.key = flatSs loop (ls.take (k + 1)) ∧ J (pre ++ ys3) W6 ∧ KpN n₀ nb W W6)) ∨
                (e = .returned (.bool false) ∧ Hid (∃ q : List (SIt B W0), q.map SIt.key <+: flatSs loop ls ∧ Jx (pre ++ q) W6))) ∨
              (e = .returned (.bool false) ∧ Hid (∃ q : List (SIt B W0), q.map SIt.key <+: flatSs loop ls ∧ Jx (pre ++ q) W5))) ∨
            (e = .returned (.bool false) ∧ Hid (∃ q : List (SIt B W0), q.map SIt.key <+: flatSs loop ls ∧ Jx (pre ++ q) W4)) := by
          refine hR.mono ?_
          rintro e W4 (⟨rfl, hj4, hk4⟩ | ⟨rfl, hj4⟩)
          · have hr4 := hk4.row HR3.out hgz
            refine .inl ⟨rfl, (hr4.cell 0).trans rfl, (hr4.cell 3).trans rfl, hthn W4 (by rw [← List.append_assoc]; exact hj4) (HK3.out.trans hk4) hr4⟩
          · refine .inr ⟨rfl, Lib.hid ⟨ys ++ [it], ?_, by rw [← List.append_assoc]; exact hj4⟩⟩
            rw [List.map_append, List.map_cons, List.map_nil, HH.out.1, HKEY.out]
            exact HFP.out _ (by rw [List.cons_prefix_cons]; exact ⟨rfl, List.nil_prefix⟩)
        clear hels hthn hR hgz
        cases loop <;> cases kb
        all_goals
          simp only [Bool.or_true, Bool.or_false] at hR2
          gi_wp2_with (first
            | (refine storeIn_first 54 (.tmp 8) (.tmp 14) rfl ?_; refine wpListIn_store_row rfl 54 (.tmp 8) (.tmp 14) rfl wo.heap.size _ rfl rfl 54 sZ (heap_new _ _) (by kernel_rfl) (by rfl) (by simp [Value.oneCell']) ?_; rw [World.setRow_alloc_new, ← HW3.out])
            | ((try refine ⟨hdd _, ?_⟩); refine hR2.mono ?_; clear hR2 hc0 hc1 hc2 hc3 hc4; rintro e W4 (⟨rfl, c40, c43, hcall1⟩ | ⟨rfl, hx4⟩))
            | (refine ⟨trivial, hdd _, ?_⟩; refine hcall1.mono ?_; clear hcall1; rintro e W5 (⟨rfl, c54, hcall2⟩ | ⟨rfl, hx5⟩))
            | (refine ⟨trivial, hdd _, ?_⟩; refine hcall2.mono ?_; clear hcall2; rintro e W6 (⟨rfl, hf6⟩ | ⟨rfl, hx6⟩))
            | (refine ⟨trivial, ?_⟩))
          all_goals first
            | (gi_roundg (ls.length - (k + 1)); (case measure => omega); (case rel => (obtain ⟨ys3, h1, h2, h3⟩ := hf6.out; exact ⟨k + 1, ys3, by omega, by go_num, Lib.hid ⟨h1, h2, h3⟩⟩)))
            | (go_ret; first | exact .inr ⟨rfl, hx6.out⟩ | exact .inr ⟨rfl, hx5.out⟩ | exact .inr ⟨rfl, hx4.out⟩)
      · have hltz : ¬ (k : Int) < (ls.length : Int) := by omega
        gi_wp2
        go_ret
        refine .inl ⟨rfl, ys, ?_, HH.out.2.1, HH.out.2.2⟩
        rw [HH.out.1, List.take_of_length_le (by omega)]
end Go.Proofs.YtjgbkdbkachciaaGreatDoor

namespace Go.Proofs.YtjgbkdbkachciaaGreatDoor
open Go.RowKit Go.Shelf
attribute [local go_sem] Oper.semAt_some

set_option maxRecDepth 100000 in
set_option maxHeartbeats 2000000 in
theorem all_any (a : Option Addr) (n c : Nat) (loop : Bool) (w : World) :
    Calls Tryz.prog 90 #[.slice a n c, .bool loop] w fun e w' => e = .returned (.func (.func 127) #[] #[.pointer (some ⟨w.heap.size, 0, none⟩), .pointer (some ⟨w.heap.size + 1, 0, none⟩)]) ∧ w' = (w.alloc (.cells #[.slice a n c] 50)).alloc (.cells #[.bool loop] 4) := by
  have hmf : ∀ (fn : Fn) (first cap : Array Value) (w : World), (Instr.makeFunc fn first cap).run Tryz.prog w = .ok (.func fn first cap) w := fun _ _ _ _ => rfl
  go_enter Tryz.func90, Tryz.ntmps90
  go_wp2
  go_ret
  exact ⟨rfl, rfl⟩

set_option maxRecDepth 100000 in
set_option maxHeartbeats 4000000 in
theorem all1_stops (n n₀ nb d N : Nat) (B : Nat → Prop) (W0 : World) (hn0 : n₀ = W0.heap.size) (ls : List LS) (loop : Bool) (v : Value) (hv : RSlB B 5 (RS d B) W0 v ls) (hN : (flatSs loop ls).length ≤ N)
    (w : World) (bl bb : Nat) (hb : Below n₀ W0 w) (hnb : nb < w.heap.size) (hl : Row w bl 50 [v]) (hbb : Row w bb 4 [.bool loop]) :
    SeqStopsK Fence.wide n Tryz.prog 127 #[.pointer (some ⟨bl, 0, none⟩), .pointer (some ⟨bb, 0, none⟩)] (encIt (B := B) (W0 := W0)) (KpN n₀ nb) (fun ys => ys.map SIt.key = flatSs loop ls) (fun ys => ys.map SIt.key <+: flatSs loop ls) N w := by
  intro l J Jx W hW hJ hJx hY h0
  have hdd : ∀ k : Nat, (Fence.wide.depth.isSome = true → 1 ≤ k) := fun k h => by cases h
  have hl' := hl.ext hW
  have hb' := hbb.ext hW
  have c0 := hl'.cell 0
  have c1 := hb'.cell 0
  simp only [List.getElem?_cons_zero] at c0 c1
  have hbW : Below n₀ W0 W := hb.trans (hW.mono (by have := hb.size; omega))
  have hw := walk_in l N n₀ nb B W0 hn0 J Jx W.heap.size hJ (fun m pre x W hj hl => yieldW m (hY pre x W hj hl)) d (n - 1) ls loop v [] W hv h0 hbW (by have := hW.size; omega) (by simpa using hN)
  obtain ⟨a0, c0', rfl, -⟩ := hv
  have HW := Lib.hid hw
  clear hl hbb hl' hb' hY hJ hJx h0 hbW hw hb hN hnb hW
  refine callsIn_of_wp Tryz.func127 rfl trivial ?_ rfl
  simp only [Tryz.ntmps127, List.size_toArray, List.length_cons, List.length_nil, Nat.reduceAdd, Nat.reduceSub, Array.replicate_succ, Array.replicate_zero, List.push_toArray, List.append_toArray, List.nil_append, List.cons_append]
  gi_wp2_with (first
    | (refine ⟨trivial, hdd _, ?_⟩; refine HW.out.mono ?_; clear HW; rintro e W1 (⟨rfl, ys, hm, hj, hk⟩ | ⟨rfl, ys, hm, hj⟩)))
  all_goals go_end0
  · exact ⟨⟨_, rfl⟩, .inl ⟨ys, hm, by simpa using hj⟩⟩
  · exact ⟨⟨_, rfl⟩, .inr ⟨ys, hm, by simpa using hj⟩⟩

def globalsL (p : LP) : List Str := p.arrays.map (·.name) ++ p.funcs.map (·.name)
set_option maxRecDepth 100000 in
set_option maxHeartbeats 4000000 in
theorem globals_any (p : LP) (av fv : Value) (w : World) (B : Nat → Prop) (hx : PX B w av fv p) (hN : p.arrays.length + p.funcs.length ≤ 1000000000) :
    Calls Tryz.prog 50 #[.agg #[av, fv]] w fun e w' => ∃ v, e = .returned v ∧ OwnS 1 9 sEncS w' w.heap.size v (globalsL p) ∧ Below w.heap.size w w' := by
  obtain ⟨aa, ac, fa, fc, rfl, rfl⟩ := hx.slice
  have HX := Lib.hid hx
  have hb1 := below_a1 w (.cells #[.slice aa p.arrays.length ac, .slice fa p.funcs.length fc] 27)
  have HB1 := Lib.hid hb1
  have HR1 := Lib.hid (show Row (w.alloc (.cells #[.slice aa p.arrays.length ac, .slice fa p.funcs.length fc] 27)) w.heap.size 27 [.slice aa p.arrays.length ac, .slice fa p.funcs.length fc] from heap_new _ _)
  obtain ⟨al, hal⟩ : ∃ al, al = p.arrays.map (·.name) := ⟨_, rfl⟩
  obtain ⟨fl, hfl⟩ : ∃ al, al = p.funcs.map (·.name) := ⟨_, rfl⟩
  have hgl : globalsL p = al ++ fl := by rw [hal, hfl]; rfl
  have HAL := Lib.hid hal
  have HFL := Lib.hid hfl
  rw [hgl]
  clear hx hb1 hal hfl hgl
  go_enter Tryz.func50, Tryz.ntmps50
  go_upto_region 2 with (fail)
  go_loopg [2, 10] p.arrays.length (fun gh v i wr => ∃ k : Nat, gh + k = p.arrays.length ∧ i = I k ∧ Hid (Below w.heap.size w wr ∧ Row wr w.heap.size 27 [.slice aa p.arrays.length ac, .slice fa p.funcs.length fc] ∧ OwnS 1 9 sEncS wr (w.heap.size + 1) v (al.take k)))
  case atStart => exact ⟨0, rfl, rfl, Lib.hid ⟨HB1.out, HR1.out, OwnS.nil⟩⟩
  case round =>
    obtain ⟨k, hg, rfl, HH⟩ := hrel
    obtain ⟨wo, rfl⟩ : ∃ wo, wo = wr := ⟨_, rfl⟩
    by_cases hlt : k < p.arrays.length
    · have hltz : (k : Int) < (p.arrays.length : Int) := by omega
      obtain ⟨b, o, C, rfl, _, hC, hrx⟩ := (HX.out.arrays.below HH.out.1 (fun C x h => h)).at hlt
      obtain ⟨x, hx⟩ : ∃ x, x = p.arrays[k] := ⟨_, rfl⟩
      rw [← hx] at hrx
      obtain ⟨h0, h1⟩ := hrx
      have e0 := hC 0 (by omega)
      have e1 := hC 1 (by omega)
      rw [h0] at e0
      rw [h1] at e1
      simp only [Nat.add_zero] at e0 e1
      have htk : al.take (k + 1) = al.take k ++ [x.name] := by
        rw [HAL.out, List.take_succ_eq_append_getElem (by simpa using hlt)]; simp [hx]
      obtain ⟨tl, htl⟩ : ∃ tl, tl = al.take k := ⟨_, rfl⟩
      rw [← htl] at htk
      have hlk : tl.length ≤ 1000000000 := by rw [htl, HAL.out, List.length_take, List.length_map]; omega
      have ho0 := HH.out.2.2
      rw [← htl] at ho0
      have HTK := Lib.hid htk
      clear hC h0 h1 hx htk htl
      go_upto_region 4 with (first
        | (refine store_first 68 (.tmp 4) (.tmp 13) rfl ?_; refine wpList_store_row rfl 68 (.tmp 4) (.tmp 13) rfl wo.heap.size _ rfl rfl 68 aZ (heap_new _ _) (by kernel_rfl) (by rfl) (by simp [Value.oneCell']) ?_))
      obtain ⟨w3, hw3⟩ : ∃ w3, w3 = (wo.alloc (.cells aZ 68)).setRow wo.heap.size #[S x.name, I x.size] := ⟨_, rfl⟩
      have hg3 : wo.grownBy w3 none := by rw [hw3, World.setRow_alloc_new]; exact alloc_grown _ _ _
      have hx3 : Row w3 wo.heap.size 68 [S x.name, I x.size] := by rw [hw3]; exact setRow_heap _ _ _ _ _ _ (heap_new _ _)
      have hb3 : Below w.heap.size w w3 := HH.out.1.grown hg3 HH.out.1.size (fun r e => by cases e)
      have hr3 := HH.out.2.1.kept hg3 (by simp)
      have ho3 := OwnS.tag ho0 hg3 (NoTag.none _ _)
      rw [← hw3]
      have c0 := hx3.cell 0
      simp only [List.getElem?_cons_zero] at c0
      have HB3 := Lib.hid hb3
      have HR3 := Lib.hid hr3
      have HO3 := Lib.hid ho3
      have hz3 : w.heap.size + 1 ≤ w3.heap.size := hr3.lt
      clear hw3 hb3 hr3 hx3 e0 e1 hg3 ho3 ho0
      obtain ⟨va, vc, rfl⟩ := HO3.out.slice
      go_wp2_with (first
        | (at_builtin; refine wpList_appS slStr rfl _ _ rfl sEncS_len sEncS_one (w.heap.size + 1) _ tl rfl (OwnS.tag HO3.out (alloc_grown _ _ none) (NoTag.none _ _)) w3.heap.size x.name rfl (fun j hj => (cell_of_block (heap_new w3 (.cells #[S x.name] 9)) j).trans (by simp [sEncS])) hlk (by omega) (by simp; omega) ?_; intro g2 cap2 w5 ho5 hg5 hat5 hlt5; have HO5 := Lib.hid ho5; have HR5 := Lib.hid ((HR3.out.kept (alloc_grown _ (.cells #[S x.name] 9) none) (by simp)).kept hg5 (fun e => by have := (ownsRow_base (OwnS.tag HO3.out (alloc_grown _ (.cells #[S x.name] 9) none) (NoTag.none _ _)) _ e.symm).1; omega)); have HB5 := Lib.hid ((HB3.out.alloc HB3.out.size (.cells #[S x.name] 9)).grown hg5 (by simp; omega) (fun r e => by have := (ownsRow_base (OwnS.tag HO3.out (alloc_grown _ (.cells #[S x.name] 9) none) (NoTag.none _ _)) _ e).1; omega)); clear ho5 hg5 hat5))
      go_roundg (p.arrays.length - (k + 1))
      case measure => omega
      case rel => exact ⟨k + 1, by omega, by go_num, Lib.hid ⟨HB5.out, HR5.out, by rw [HTK.out]; simpa using HO5.out⟩⟩
    · have hltz : ¬ (k : Int) < (p.arrays.length : Int) := by omega
      have HB5 := Lib.hid HH.out.1
      have HO5 := Lib.hid (show OwnS 1 9 sEncS wo (w.heap.size + 1) _ al by have := HH.out.2.2; rwa [List.take_of_length_le (by rw [HAL.out]; simp; omega)] at this)
      have hr5 := HH.out.2.1
      have c1 := hr5.cell 1
      simp only [List.getElem?_cons_succ, List.getElem?_cons_zero] at c1
      clear HH hr5
      go_upto_region 7 with (fail)
      go_loopg [2, 23] p.funcs.length (fun gh v i wr => ∃ k : Nat, gh + k = p.funcs.length ∧ i = I k ∧ Hid (Below w.heap.size w wr ∧ OwnS 1 9 sEncS wr (w.heap.size + 1) v (al ++ fl.take k)))
      case atStart => exact ⟨0, rfl, rfl, Lib.hid ⟨HB5.out, by simpa using HO5.out⟩⟩
      case round =>
        obtain ⟨j, hg2, rfl, HH⟩ := hrel
        obtain ⟨wq, rfl⟩ : ∃ wo, wo = wr := ⟨_, rfl⟩
        by_cases hlt2 : j < p.funcs.length
        · have hltz2 : (j : Int) < (p.funcs.length : Int) := by omega
          obtain ⟨b, o, C, rfl, _, hC, hrx⟩ := (HX.out.funcs.below HH.out.1 (fun C x h => h.grown (below_grown HH.out.1 none) (fun r e => by cases e))).at hlt2
          obtain ⟨x, hx⟩ : ∃ x, x = p.funcs[j] := ⟨_, rfl⟩
          rw [← hx] at hrx
          obtain ⟨h0, ⟨pa, pc, hpv, -⟩, ⟨la, lc, hlv, -⟩, hbody⟩ := hrx
          obtain ⟨ba, bc, hbv⟩ := hbody.slice
          have e0 := hC 0 (by omega)
          have e1 := hC 1 (by omega)
          have e2 := hC 2 (by omega)
          have e3 := hC 3 (by omega)
          rw [h0] at e0
          rw [hpv] at e1
          rw [hlv] at e2
          rw [hbv] at e3
          simp only [Nat.add_zero] at e0 e1 e2 e3
          have htk : al ++ fl.take (j + 1) = al ++ fl.take j ++ [x.name] := by
            rw [HFL.out, List.take_succ_eq_append_getElem (by simpa using hlt2), List.append_assoc]; simp [hx]
          obtain ⟨tl, htl⟩ : ∃ tl, tl = al ++ fl.take j := ⟨_, rfl⟩
          rw [← htl] at htk
          have hlk : tl.length ≤ 1000000000 := by rw [htl, HAL.out, HFL.out, List.length_append, List.length_take, List.length_map, List.length_map]; omega
          have ho0 := HH.out.2
          rw [← htl] at ho0
          have HTK := Lib.hid htk
          clear hC h0 hpv hlv hbody hbv hx htk htl
          go_upto_region 9 with (first
            | (refine store_first 52 (.tmp 6) (.tmp 26) rfl ?_; refine wpList_store_row rfl 52 (.tmp 6) (.tmp 26) rfl wq.heap.size _ rfl rfl 52 fZ4 (heap_new _ _) (by kernel_rfl) (by rfl) (by simp [Value.oneCell']) ?_))
          obtain ⟨w3, hw3⟩ : ∃ w3, w3 = (wq.alloc (.cells fZ4 52)).setRow wq.heap.size #[S x.name, .slice pa x.params.length pc, .slice la x.locals.length lc, .slice ba x.body.length bc] := ⟨_, rfl⟩
          have hg3 : wq.grownBy w3 none := by rw [hw3, World.setRow_alloc_new]; exact alloc_grown _ _ _
          have hx3 : Row w3 wq.heap.size 52 [S x.name, .slice pa x.params.length pc, .slice la x.locals.length lc, .slice ba x.body.length bc] := by rw [hw3]; exact setRow_heap _ _ _ _ _ _ (heap_new _ _)
          have hb3 : Below w.heap.size w w3 := HH.out.1.grown hg3 HH.out.1.size (fun r e => by cases e)
          have ho3 := OwnS.tag ho0 hg3 (NoTag.none _ _)
          rw [← hw3]
          have c0 := hx3.cell 0
          simp only [List.getElem?_cons_zero] at c0
          have HB3 := Lib.hid hb3
          have HO3 := Lib.hid ho3
          have hz3 : w.heap.size + 1 ≤ w3.heap.size := by have := hx3.lt; have := HH.out.1.size; omega
          clear hw3 hb3 hx3 e0 e1 e2 e3 hg3 ho3 ho0
          try clear c1
          obtain ⟨va, vc, rfl⟩ := HO3.out.slice
          go_wp2_with (first
            | (at_builtin; refine wpList_appS slStr rfl _ _ rfl sEncS_len sEncS_one (w.heap.size + 1) _ tl rfl (OwnS.tag HO3.out (alloc_grown _ _ none) (NoTag.none _ _)) w3.heap.size x.name rfl (fun j hj => (cell_of_block (heap_new w3 (.cells #[S x.name] 9)) j).trans (by simp [sEncS])) hlk (by omega) (by simp; omega) ?_; intro g2 cap2 w5 ho5 hg5 hat5 hlt5; have HO5 := Lib.hid ho5; have HB5 := Lib.hid ((HB3.out.alloc HB3.out.size (.cells #[S x.name] 9)).grown hg5 (by simp; omega) (fun r e => by have := (ownsRow_base (OwnS.tag HO3.out (alloc_grown _ (.cells #[S x.name] 9) none) (NoTag.none _ _)) _ e).1; omega)); clear ho5 hg5 hat5))
          go_roundg (p.funcs.length - (j + 1))
          case measure => omega
          case rel => exact ⟨j + 1, by omega, by go_num, Lib.hid ⟨HB5.out, by rw [HTK.out]; simpa using HO5.out⟩⟩
        · have hltz2 : ¬ (j : Int) < (p.funcs.length : Int) := by omega
          go_wp2
          go_ret
          refine ⟨_, rfl, ?_, HH.out.1⟩
          have := HH.out.2
          rw [List.take_of_length_le (by rw [HFL.out]; simp; omega)] at this
          exact this.mono (by omega)
end Go.Proofs.YtjgbkdbkachciaaGreatDoor

namespace Go.Proofs.YtjgbkdbkachciaaGreatDoor
open Go.RowKit Go.Shelf
attribute [local go_sem] Oper.semAt_some

set_option maxRecDepth 100000 in
set_option maxHeartbeats 2000000 in
theorem values_any (a : Option Addr) (n c : Nat) (w : World) :
    Calls Tryz.prog 83 #[.slice a n c] w fun e w' => e = .returned (.func (.func 123) #[] #[.pointer (some ⟨w.heap.size, 0, none⟩)]) ∧ w' = w.alloc (.cells #[.slice a n c] 49) := by
  have hmf : ∀ (fn : Fn) (first cap : Array Value) (w : World), (Instr.makeFunc fn first cap).run Tryz.prog w = .ok (.func fn first cap) w := fun _ _ _ _ => rfl
  go_enter Tryz.func83, Tryz.ntmps83
  go_wp2
  go_ret
  exact ⟨rfl, rfl⟩

set_option maxRecDepth 100000 in
set_option maxHeartbeats 4000000 in
theorem values1_stops (F : Fence) (n n₀ : Nat) (h123 : F.fn 123) (hro : F.round = none) (hn : 1 ≤ n) (B : Nat → Prop) (W0 : World) (hn0 : n₀ = W0.heap.size) (v : Value) (ls : List Str) (hv : RSlB B 1 RStr W0 v ls) (w : World) (bl : Nat) (hb : Below n₀ W0 w) (hl : Row w bl 49 [v]) :
    SeqStopsK F n Tryz.prog 123 #[.pointer (some ⟨bl, 0, none⟩)] (fun x : Str => #[S x]) (Below n₀) (fun ys => ys = ls) (fun _ => True) ls.length w := by
  intro l J Jx W hW hJ hJx hY h0
  have hl' := hl.ext hW
  have c0 := hl'.cell 0
  simp only [List.getElem?_cons_zero] at c0
  have hbW : Below n₀ W0 W := hb.trans (hW.mono (by have := hb.size; omega))
  obtain ⟨a0, c0', rfl, hlen, -⟩ := id hv
  have HV := Lib.hid hv
  have HY := Lib.hid hY
  have HJ0 := Lib.hid h0
  have HB := Lib.hid hbW
  have HN0 := Lib.hid hn0
  clear hl hl' hY hJ hJx h0 hbW hb hW hv hn0
  refine callsIn_of_wp Tryz.func123 rfl h123 ?_ hro
  simp only [Tryz.ntmps123, List.size_toArray, List.length_cons, List.length_nil, Nat.reduceAdd, Nat.reduceSub, Array.replicate_succ, Array.replicate_zero, List.push_toArray, List.append_toArray, List.nil_append, List.cons_append]
  gi_wp2
  clear c0
  gi_loopg [7] ls.length (fun gh i wr => ∃ k : Nat, gh + k = ls.length ∧ i = I k ∧ Hid (J (ls.take k) wr ∧ Below n₀ W0 wr))
  case atStart => exact ⟨0, rfl, rfl, Lib.hid ⟨HJ0.out, HB.out⟩⟩
  case round =>
    obtain ⟨k, hg, rfl, HH⟩ := hrel
    obtain ⟨wo, rfl⟩ : ∃ wo, wo = wr := ⟨_, rfl⟩
    by_cases hlt : k < ls.length
    · have hltz : (k : Int) < (ls.length : Int) := by omega
      obtain ⟨b, o, C, rfl, _, hC, hrx⟩ := HV.out.at hlt
      have e0 := (HH.out.2.cell (by rw [HN0.out]; exact World.block_lt_of_cell? W0 _ (hC 0 (by omega)))).trans (hC 0 (by omega))
      rw [show C 0 = S ls[k] from hrx] at e0
      simp only [Nat.add_zero, Nat.mul_one] at e0
      obtain ⟨x, hx⟩ : ∃ x, x = ls[k] := ⟨_, rfl⟩
      rw [← hx] at e0
      have hy := HY.out (ls.take k) x wo HH.out.1 (by rw [List.length_take]; omega)
      obtain ⟨fn, tmps, assign, body, hyy, hR⟩ := hy
      have htk : ls.take (k + 1) = ls.take k ++ [x] := by rw [List.take_succ_eq_append_getElem hlt, hx]
      have HTK := Lib.hid htk
      clear hC hrx hx htk
      gi_wp2
      refine hR.mono ?_
      rintro e W3 (⟨rfl, hJ3, hk3⟩ | ⟨rfl, hJx3⟩)
      · have HK3 := Lib.hid (HH.out.2.trans hk3)
        have HJ3 := Lib.hid hJ3
        clear hk3 hJ3 e0
        gi_wp2
        gi_roundg (ls.length - (k + 1))
        case measure => omega
        case rel => exact ⟨k + 1, by omega, by go_num, Lib.hid ⟨by rw [HTK.out]; exact HJ3.out, HK3.out⟩⟩
      · gi_wp2
        refine bodyPost_ret (results_none rfl _ _ _) rfl ?_
        exact ⟨⟨_, rfl⟩, .inr ⟨_, trivial, hJx3⟩⟩
    · have hltz : ¬ (k : Int) < (ls.length : Int) := by omega
      gi_wp2
      go_end0
      have hjl := HH.out.1
      rw [List.take_of_length_le (show ls.length ≤ k by omega)] at hjl
      exact ⟨⟨_, rfl⟩, .inl hjl⟩

theorem sEncS_flat (l : List Str) : l.flatMap sEncS = l.map S := by
  induction l with
  | nil => rfl
  | cons x l ih => rw [List.flatMap_cons, ih]; rfl

set_option maxRecDepth 100000 in
set_option maxHeartbeats 4000000 in
theorem appendSeqS_in (F : Fence) (n n₀ : Nat) (h181 : F.fn 181) (hro : F.round = none) (hn : 2 ≤ n) (g : Nat) (lb : Array Value) (hFg : F.fn g) (eg : ∀ args w, (callFunc g args).run Tryz.prog w = .ok (.enter g args) w)
    (Sq Sp : List Str → Prop) (N : Nat) (hN : N ≤ 1000000000000) (w : World) (hn0 : n₀ ≤ w.heap.size) (hseq : SeqStopsK F (n - 1) Tryz.prog g lb (fun x : Str => #[S x]) (Below n₀) Sq Sp N w) :
    CallsIn F n Tryz.prog 181 #[.slice none 0 0, .func (.func g) #[] lb] w fun e w' => ∃ (v : Value) (ss : List Str), e = .returned v ∧ Sq ss ∧ OwnS 1 9 sEncS w' w.heap.size v ss ∧ Below w.heap.size w w' := by
  have h1 : 1 ≤ n := by omega
  obtain ⟨i0, z0, hi, hz0, hz1, hz2, hz3⟩ := slStr.hi
  refine callsIn_of_wp_marks Tryz.func181 rfl h181 ?_ hro
  simp only [Tryz.ntmps181, List.size_toArray, List.length_cons, List.length_nil, Nat.reduceAdd, Nat.reduceSub, Array.replicate_succ, Array.replicate_zero, List.push_toArray, List.append_toArray, List.nil_append, List.cons_append]
  gi_wp2
  have bS := Boxed.new w 49 (.slice none 0 0)
  have hB0 : Below w.heap.size w (w.alloc (.cells #[.slice none 0 0] 49)) := below_a1 _ _
  refine wpIn_rangeFunc_ownG hro h1 (gf := g) (lb := lb) rfl hFg eg hseq belowK_t (belowK_b (by simp; omega)) hB0 (fun _ => rfl)
    (fun pre W => (∃ v, Boxed W w.heap.size 49 v ∧ W.ownsRow w.heap.size 9 1 v pre.length (pre.map S) ∧ True) ∧ (Below w.heap.size w W ∧ pre.length ≤ N))
    (fun _ _ _ => False)
    (OwnFrom.and (Own.from (holdsRow_own _ _ _ _ _ _ _ _) _) (OwnFrom.and (ownFrom_below (Nat.le_refl _) (by simp)) (ownFrom_pure _ _)))
    (fun _ _ _ _ _ hs _ _ => hs)
    ⟨⟨_, bS, ⟨rfl, .inl ⟨rfl, rfl⟩⟩, trivial⟩, hB0, by simp⟩
    (fun x => { tmps := #[.slice none 0 0, .func (.func g) #[] lb, .pointer (some ⟨w.heap.size, 0, none⟩), undef, .slice none 0 0, S x, .func (.func g) #[] lb, S x, undef, undef, undef, undef, undef], defers := [] }) ?assign ?body ?done ?stop
  case assign =>
    intro l x W K hK
    gi_wp2
    exact hK
  case body =>
    rintro l pre x W ⟨⟨v, hv, hrow, _⟩, hB, hlen⟩ hlt
    have hcv := hv.cell
    gi_wp2_with (first
      | (gi_at_builtin; refine wpListIn_append_own _ rfl _ _ 49 rfl w.heap.size 9 i0 z0 1 16 Tryz.underlying49 hi hz0 hz1 hz2 hz3 (by decide) _ _ _ rfl (hrow.alloc _) ⟨W.heap.size, 0, none⟩ 1 1 [S x] rfl rfl (cell_one_new _ _ _) (by simp [Value.oneCell']) (by unfold maxLen; omega) (by omega) (by have := hB.size; simp; omega) ?_; intro v' w1 hown' hgrow _; obtain ⟨g', cap', rfl⟩ := ownsRow_succ hown'; obtain ⟨hv1, hv2, hr2, hk2, hb2⟩ := hv.appended (by decide) hrow hB.size (Nat.le_refl _) hown' hgrow; have hc1 := hv1.cell; have hf1 := hv1.frozen; have HV2 := Lib.hid hv2; have HR2 := Lib.hid hr2; have HK2 := Lib.hid hk2; have HB2 := Lib.hid hb2; clear hv2 hr2 hk2 hb2 hown' hgrow hv1)
      | gi_in)
    exact ⟨(KeepsOthers.from HK2.out _), HB2.out.mono hn0, ⟨⟨_, HV2.out, by simpa using HR2.out, trivial⟩, hB.trans HB2.out, by simp; omega⟩⟩
  case done =>
    rintro D ss W hD hS ⟨⟨v, hv, hrow, _⟩, hB, hlen⟩ hK
    have hcv := hv.cell
    gi_wp2
    refine ⟨by simp, .inl ⟨_, _, rfl, run_takeDeferred hK, ?_⟩⟩
    exact ⟨_, results_tmp rfl _ _ _, v, ss, rfl, hS, by unfold OwnS; rw [sEncS_flat]; exact ownsRow_putObj hrow _ hK rfl, hB.trans (belowK_b (w := w) (Nat.le_refl _) W D _ _ (by simp at hD; omega) hK rfl rfl)⟩
  case stop =>
    rintro D c pre W _ _ h _
    exact h.elim

set_option maxHeartbeats 1000000 in
theorem collectS_in (F : Fence) (n n₀ : Nat) (h121 : F.fn 121) (h181 : F.fn 181) (hro : F.round = none) (hn : 3 ≤ n) (g : Nat) (lb : Array Value) (hFg : F.fn g) (eg : ∀ args w, (callFunc g args).run Tryz.prog w = .ok (.enter g args) w)
    (Sq Sp : List Str → Prop) (N : Nat) (hN : N ≤ 1000000000000) (w : World) (hn0 : n₀ ≤ w.heap.size) (hseq : SeqStopsK F (n - 1 - 1) Tryz.prog g lb (fun x : Str => #[S x]) (Below n₀) Sq Sp N w) :
    CallsIn F n Tryz.prog 121 #[.func (.func g) #[] lb] w fun e w' => ∃ (v : Value) (ss : List Str), e = .returned v ∧ Sq ss ∧ OwnS 1 9 sEncS w' w.heap.size v ss ∧ Below w.heap.size w w' := by
  have h1 : 1 ≤ n := by omega
  refine callsIn_of_wp Tryz.func121 rfl h121 ?_ hro
  simp only [Tryz.ntmps121, List.size_toArray, List.length_cons, List.length_nil, Nat.reduceAdd, Nat.reduceSub, Array.replicate_succ, Array.replicate_zero, List.push_toArray, List.append_toArray, List.nil_append, List.cons_append]
  gi_wp2_with (gi_at_call 181; refine (appendSeqS_in F (n - 1) n₀ h181 hro (by omega) g lb hFg eg Sq Sp N hN _ hn0 hseq).mono ?_; rintro e w' ⟨v, ss, rfl, hS, hrow, hb⟩)
  go_ret
  exact ⟨v, ss, rfl, hS, hrow, hb⟩
theorem collectS_any (n₀ g : Nat) (lb : Array Value) (eg : ∀ args w, (callFunc g args).run Tryz.prog w = .ok (.enter g args) w) (Sq Sp : List Str → Prop) (N : Nat) (hN : N ≤ 1000000000000) (w : World) (hn0 : n₀ ≤ w.heap.size)
    (hseq : SeqStopsK Fence.wide 4 Tryz.prog g lb (fun x : Str => #[S x]) (Below n₀) Sq Sp N w) :
    Calls Tryz.prog 121 #[.func (.func g) #[] lb] w fun e w' => ∃ (v : Value) (ss : List Str), e = .returned v ∧ Sq ss ∧ OwnS 1 9 sEncS w' w.heap.size v ss ∧ Below w.heap.size w w' :=
  callsIn_wide.1 (collectS_in Fence.wide 6 n₀ trivial trivial rfl (by omega) g lb trivial eg Sq Sp N hN w hn0 hseq)
open Go.Sort in
/-- sorted strings -/
def sortS (l : List Str) : List Str := l.mergeSort fun x y => decide (x ≤ y)
theorem sortS_len (l : List Str) : (sortS l).length = l.length := (List.mergeSort_perm l _).length_eq
open Go.Sort in
theorem sortS_own (base : Nat) (v : Value) (l : List Str) (w : World) (h : OwnS 1 9 sEncS w base v l) (hl : l.length ≤ 1000000000000) :
    Calls Tryz.prog 122 #[v] w fun e w' => e = .returned (.tuple #[]) ∧ OwnS 1 9 sEncS w' base v (sortS l) ∧ w.grownBy w' v.ownBlock := by
  unfold OwnS at h ⊢
  rw [sEncS_flat] at h ⊢
  rcases h.2 with ⟨rfl, h0⟩ | ⟨g, cap, cur, rfl, hg, hh, hc, hm, hs, ht⟩
  · have := List.eq_nil_of_length_eq_zero h0
    subst this
    refine (Tryz.slices_Sort_string_none _ _ w).mono ?_
    rintro e w' ⟨rfl, rfl⟩
    exact ⟨rfl, by simpa [sortS] using h, ⟨rfl, rfl, rfl, Nat.le_refl _, fun _ _ _ => rfl⟩⟩
  · have hH := holds_of_block (ss := l) hh (by simpa using ht)
    refine (Tryz.slices_Sort_string g 0 cap l w hH (Array.getElem?_eq_some_iff.1 hh).1 (by omega)).mono ?_
    rintro e w' ⟨rfl, n, os, rfl⟩
    refine ⟨rfl, ?_, grownBy_sorted _⟩
    have := ownsRow_sorted (n := n) (os := os) (ss := l) (ts := sortS l) (sortS_len l) hg hh hc hm hs
    rw [sortS_len]
    exact this

set_option maxHeartbeats 1000000 in
/-- slices.Sorted over a sequence -/
theorem sortedS_any (n₀ g : Nat) (lb : Array Value) (eg : ∀ args w, (callFunc g args).run Tryz.prog w = .ok (.enter g args) w) (l : List Str) (Sp : List Str → Prop) (hN : l.length ≤ 1000000000) (w : World) (hn0 : n₀ ≤ w.heap.size)
    (hseq : SeqStopsK Fence.wide 4 Tryz.prog g lb (fun x : Str => #[S x]) (Below n₀) (fun ys => ys = l) Sp l.length w) :
    Calls Tryz.prog 82 #[.func (.func g) #[] lb] w fun e w' => ∃ v, e = .returned v ∧ OwnS 1 9 sEncS w' w.heap.size v (sortS l) ∧ Below w.heap.size w w' := by
  have HS := Lib.hid (collectS_any n₀ g lb eg _ _ _ (by omega) w hn0 hseq)
  clear hseq
  go_enter Tryz.func82, Tryz.ntmps82
  go_wp2_with (first
    | (go_at_call 121; refine HS.out.mono ?_; rintro e w1 ⟨v1, ss, rfl, rfl, own1, hb1⟩; have HO1 := Lib.hid own1; have HB1 := Lib.hid hb1; clear own1 hb1)
    | (go_at_call 122; refine (sortS_own w.heap.size v1 ss _ HO1.out (by omega)).mono ?_; rintro e w2 ⟨rfl, own2, hg2⟩; have HO2 := Lib.hid own2; have HG2 := Lib.hid hg2; clear own2 hg2))
  go_ret
  exact ⟨v1, rfl, HO2.out, HB1.out.grown HG2.out HB1.out.size (fun k hk => (ownsRow_base HO1.out k hk).1)⟩

/-- one of some names is there twice -/
def twiceB (l : List Str) : Bool := decide ((Lib.compact (sortS l)).length < l.length)
open Go.Sort in
theorem putRow_grown {w : World} {g q : Nat} (d : Array Str) : w.grownBy (putRow encStr (Sort.ahead w q) g 0 d) (some g) := by
  refine ⟨rfl, rfl, rfl, by simp [putRow, mapBlock, Sort.ahead], fun k hk hne => ?_⟩
  have : g ≠ k := fun e => hne (by rw [e])
  simp [putRow, mapBlock, Sort.ahead, Array.getElem?_modify, this]
set_option maxRecDepth 100000 in
set_option maxHeartbeats 4000000 in
theorem twice_any (l : List Str) (v : Value) (w : World) (B : Nat → Prop) (hv : RSlB B 1 RStr w v l) (hN : l.length ≤ 1000000000) :
    Calls Tryz.prog 49 #[v] w fun e w' => e = .returned (.bool (twiceB l)) ∧ Below w.heap.size w w' := by
  obtain ⟨a0, c0, rfl, -⟩ := id hv
  have hb1 := below_a1 w (.cells #[.slice a0 l.length c0] 49)
  have eg : ∀ args w, (callFunc 123 args).run Tryz.prog w = .ok (.enter 123 args) w := enters_of Tryz.func123 (by kernel_rfl) rfl
  have HSO := Lib.hid (sortedS_any w.heap.size 123 #[.pointer (some ⟨w.heap.size, 0, none⟩)] eg l (fun _ => True) hN (w.alloc (.cells #[.slice a0 l.length c0] 49)) (by simp)
    (values1_stops Fence.wide 4 w.heap.size trivial rfl (by omega) B w rfl _ l hv _ w.heap.size hb1 (heap_new _ _)))
  have HB1 := Lib.hid hb1
  clear hv hb1 eg
  obtain ⟨sl, hsl⟩ : ∃ sl, sl = sortS l := ⟨_, rfl⟩
  obtain ⟨n, hn⟩ : ∃ n, n = l.length := ⟨_, rfl⟩
  have hlen : sl.length = n := by rw [hsl, sortS_len, hn]
  have htw : twiceB l = decide ((Lib.compact sl).length < n) := by rw [hsl, hn]; rfl
  rw [htw]
  have hn9 : n ≤ 1000000000 := by omega
  rw [← hsl, ← hn] at HSO
  rw [← hn] at HB1 ⊢
  clear htw hsl hn
  go_enter Tryz.func49, Tryz.ntmps49
  go_upto_region 2 with (first
    | (go_at_call 83; refine (values_any _ _ _ _).mono ?_; rintro e w1 ⟨rfl, rfl⟩)
    | (go_at_call 82; refine HSO.out.mono ?_; rintro e w2 ⟨v2, rfl, own2, hb2⟩; have HB2 := Lib.hid (HB1.out.trans (hb2.mono (by simp))); have HO2 := Lib.hid own2; clear own2 hb2))
  have hs2 := HO2.out
  unfold OwnS at hs2
  rw [sEncS_flat, hlen] at hs2
  rcases hs2.2 with ⟨rfl, h0⟩ | ⟨g, cap, cur, rfl, hg, hh, hc, hm, hs, ht⟩
  · subst h0
    have hs0 := List.eq_nil_of_length_eq_zero hlen
    subst hs0
    go_wp2_with (first
      | (go_at_call 85; refine (Tryz.slices_Clone_string_nil _ _ _).mono ?_; rintro e w3 ⟨rfl, rfl⟩)
      | (go_at_call 84; refine (Tryz.slices_Compact_string_empty _ _ _).mono ?_; rintro e w4 ⟨rfl, rfl⟩))
    go_ret
    exact ⟨rfl, HB2.out⟩
  · have hcl : ∀ j, j < (sl.map fun x => (⟨x.toArray⟩ : ByteArray)).length → w2.cell? ⟨g, 0 + j, none⟩ = some (.string ((sl.map fun x => (⟨x.toArray⟩ : ByteArray)).getD j ByteArray.empty)) := fun j hj => by
      rw [Nat.zero_add, cell_of_block hh]
      have hj' : j < sl.length := by simpa using hj
      have h1 : (cur.toList.take (n * 1))[j]? = (sl.map S)[j]? := by rw [ht]
      rw [List.getElem?_take_of_lt (by omega), Array.getElem?_toList] at h1
      rw [h1]
      simp [hj', S]
    have hbig : n * 16 ≤ 140737488355328 := by omega
    have HCL := Lib.hid (Tryz.slices_Clone_string g 0 n cap (sl.map fun x => (⟨x.toArray⟩ : ByteArray)) w2 (by simp [hlen]) hbig hcl)
    clear hs2 hcl hs ht hh
    have hzz : (sl.map fun x => (⟨x.toArray⟩ : ByteArray)).take n = sl.map fun x => (⟨x.toArray⟩ : ByteArray) := List.take_of_length_le (by simp [hlen])
    rw [hzz] at HCL
    obtain ⟨m, hm'⟩ : ∃ m, m = (Lib.compact sl).length := ⟨_, rfl⟩
    have HM := Lib.hid hm'
    have HCP := Lib.hid (fun W g3 cap3 cur3 (hh3 : W.heap[g3]? = some (.cells cur3 9 (0, 0))) (hc3 : n ≤ cap3) (ht3 : cur3.toList.take (n * 1) = (sl.map fun x => (⟨x.toArray⟩ : ByteArray)).map Value.string) =>
      Tryz.slices_Compact_string g3 0 cap3 sl W (holds_of_block (ss := sl) hh3 (by rw [hlen]; rw [Nat.mul_one] at ht3; rw [ht3, List.map_map]; rfl)) (by omega) (by omega))
    rw [hlen, ← hm'] at HCP
    clear hzz hm'
    go_wp2_with (first
      | (go_at_call 85; refine HCL.out.mono ?_; rintro e w3 ⟨v3, rfl, own3, hne3, hb3⟩; have HB3 := Lib.hid (HB2.out.trans (hb3.mono HB2.out.size)); obtain ⟨g3, cap3, cur3, rfl, hg3, hh3, hc3, hm3, hs3, ht3⟩ := own3.2.resolve_left (fun h => hne3 h.1); have hz2 := HB2.out.size; have HCC := Lib.hid (HCP.out w3 g3 cap3 cur3 hh3 hc3 ht3); clear own3 hne3 hh3 hc3 hm3 hs3 ht3 hb3)
      | (go_at_call 84; refine HCC.out.mono ?_; rintro e w4 ⟨rfl, q, rfl⟩))
    go_ret
    refine ⟨?_, HB3.out.grown (putRow_grown _) HB3.out.size (fun r e => by cases e; omega)⟩
    rw [← HM.out]
    have hde : decide (m < n) = decide ((m : Int) < (n : Int)) := by
      by_cases h : m < n
      · simp [h]
      · simp [h]
    rw [hde]
    rfl
end Go.Proofs.YtjgbkdbkachciaaGreatDoor
