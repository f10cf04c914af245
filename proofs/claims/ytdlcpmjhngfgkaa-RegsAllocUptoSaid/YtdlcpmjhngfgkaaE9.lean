import Derived.Test.YtdlcpmjhngfgkaaE8
import Derived.Test.YtdlcpmjhngfgkaaE6
import Derived.Deep.QuietTactic
import Derived.BigQuiet
import Derived.BigRegion
namespace Go.Proofs.Ytdlcpmjhngfgkaa
open Go.RowKit Go.Shelf

/-- by how much one is used less than the other -/
def cmpU (us : List Int) (x y : Int) : Int := us.getD y.toNat 0 - us.getD x.toNat 0

set_option maxRecDepth 100000 in
set_option maxHeartbeats 1000000 in
theorem cmp_any (W : World) (u : Nat) (v : Value) (us : List Int) (hu : W.cell? ⟨u, 0, none⟩ = some v) (hv : RInts W v us) (hs : ∀ x ∈ us, 0 ≤ x ∧ x ≤ 1000000000000) (x y : Int) (hx : 0 ≤ x ∧ x < us.length) (hy : 0 ≤ y ∧ y < us.length) :
    Calls Try.prog 19 #[I x, I y, .pointer (some ⟨u, 0, none⟩)] W fun e w' => e = .returned (I (cmpU us x y)) ∧ ∃ q, w' = W.drewN q := by
  obtain ⟨i, rfl⟩ : ∃ i : Nat, x = i := ⟨x.toNat, by omega⟩
  obtain ⟨j, rfl⟩ : ∃ j : Nat, y = j := ⟨y.toNat, by omega⟩
  have hi : i < us.length := by omega
  have hj : j < us.length := by omega
  obtain ⟨b, o, c, rfl, hci, hii⟩ := RInts.at hv hi
  obtain ⟨b', o', c', he, hcj, hij⟩ := RInts.at hv hj
  obtain ⟨⟨rfl, rfl⟩, rfl⟩ : (b = b' ∧ o = o') ∧ c = c' := by simpa using he
  have h1 := hs us[i] (List.getElem_mem hi)
  have h2 := hs us[j] (List.getElem_mem hj)
  have hcm : cmpU us i j = us[j] - us[i] := by simp [cmpU, hi, hj]
  obtain ⟨p, hp⟩ : ∃ p, p = us[i] := ⟨_, rfl⟩
  obtain ⟨q, hq⟩ : ∃ q, q = us[j] := ⟨_, rfl⟩
  rw [← hp, ← hq] at hcm
  rw [← hp] at hci h1
  rw [← hq] at hcj h2
  have HCM := Lib.hid hcm
  obtain ⟨ha, hb⟩ := hx
  obtain ⟨hc, hd⟩ := hy
  clear hcm hp hq he hii hij hv hs
  go_enter Try.func19, Try.ntmps19
  go_wp2
  go_quiet (fail)
  go_wp2
  go_ret
  rw [HCM.out]
  exact ⟨rfl, _, rfl⟩

/-- a row that has been put into another order -/
def Resorted (D : Nat) (l0 : List Int) (w w' : World) : Prop := ∃ l : List Int, l.Perm l0 ∧ Row w' D 3 (l.map I) ∧ w.grownBy w' (some D)

/-- what is asked of the function that compares -/
def CmpOk (w : World) (D n u : Nat) (cf : Int → Int → Int) : Prop := ∀ W, w.grownBy W (some D) → ∀ x y : Int, 0 ≤ x ∧ x < n → 0 ≤ y ∧ y < n →
  Calls Try.prog 19 #[I x, I y, .pointer (some ⟨u, 0, none⟩)] W fun e w' => e = .returned (I (cf x y)) ∧ ∃ q, w' = W.drewN q

theorem drewN_grown (W : World) (q : Nat) (row : Option Nat) : W.grownBy (W.drewN q) row := ⟨rfl, rfl, rfl, Nat.le_refl _, fun _ _ _ => rfl⟩
theorem Row.drewN {W : World} {g : Nat} {t : TypeId} {cs : List Value} (h : Row W g t cs) (q : Nat) : Row (W.drewN q) g t cs := h

theorem swap_perm : ∀ (l : List Int) (i : Nat) (h : i + 1 < l.length), ((l.set (i + 1) l[i]).set i l[i + 1]).Perm l
  | x :: y :: r, 0, _ => List.Perm.swap x y r
  | x :: r, i + 1, h => List.Perm.cons x (swap_perm r i (by simpa using h))

theorem swap_grown {w W : World} {D : Nat} (hg : w.grownBy W (some D)) (q : Nat) (i j : Nat) (x y : Value) : w.grownBy (((W.drewN q).setCell ⟨D, i, none⟩ x).setCell ⟨D, j, none⟩ y) (some D) :=
  grown_trans hg (grown_trans (drewN_grown W q (some D)) (grown_trans (setCell_grown _ _ _ _) (setCell_grown _ _ _ _)))

set_option maxRecDepth 1000000 in
set_option maxHeartbeats 4000000 in
theorem ins_any (w : World) (D n u : Nat) (cf : Int → Int → Int) (hcf : CmpOk w D n u cf) (l0 : List Int) (cap a b : Nat) (hab : a ≤ b) (hb : b ≤ l0.length) (hn : l0.length ≤ 1000000) (hrow : Row w D 3 (l0.map I)) (hin : ∀ x ∈ l0, 0 ≤ x ∧ x < n) :
    Calls Try.prog 52 #[.slice (some ⟨D, 0, none⟩) l0.length cap, I a, I b, .func (.func 19) #[] #[.pointer (some ⟨u, 0, none⟩)]] w fun e w' => (∃ v, e = .returned v) ∧ Resorted D l0 w w' := by
  have HCF := Lib.hid hcf
  have HIN := Lib.hid hin
  have HR := Lib.hid hrow
  clear hcf hin hrow
  go_enter Try.func52, Try.ntmps52
  go_wp2
  go_loopg [8] (b + 1 - (a + 1)) (fun gh vi wr => ∃ i : Nat, gh + i = b + 1 ∧ a < i ∧ vi = I i ∧ Resorted D l0 w wr)
  case atStart => exact ⟨a + 1, by omega, by omega, by go_num, l0, List.Perm.refl _, HR.out, ⟨rfl, rfl, rfl, Nat.le_refl _, fun _ _ _ => rfl⟩⟩
  case round =>
    obtain ⟨i, hg, hai, rfl, hre⟩ := hrel
    obtain ⟨wo, rfl⟩ : ∃ wo, wo = wr := ⟨_, rfl⟩
    have HRE := Lib.hid hre
    clear hre
    by_cases hlt : i < b
    · have hltz : (i : Int) < (b : Int) := by omega
      go_wp2
      go_loopg [9] (i - a) (fun gh vj wr => ∃ j : Nat, gh + a = j ∧ j ≤ i ∧ vj = I j ∧ Resorted D l0 w wr)
      case atStart => exact ⟨i, by omega, Nat.le_refl _, rfl, HRE.out⟩
      case round =>
        obtain ⟨j, hg', hji, rfl, l, hp, hr, hgr⟩ := hrel
        obtain ⟨wq, rfl⟩ : ∃ wq, wq = wr := ⟨_, rfl⟩
        have HP := Lib.hid hp
        have HRW := Lib.hid hr
        have HGR := Lib.hid hgr
        have hlen := hp.length_eq
        have HLE := Lib.hid hlen
        clear hp hr hgr hlen
        by_cases hja : a < j
        · obtain ⟨jp, rfl⟩ : ∃ jp, j = jp + 1 := ⟨j - 1, by omega⟩
          have hjl : jp + 1 < l.length := by have := HLE.out; omega
          have hjl' : jp < l.length := by omega
          have cj := HRW.out.cell (jp + 1)
          have cp := HRW.out.cell jp
          rw [List.getElem?_map, List.getElem?_eq_getElem hjl] at cj
          rw [List.getElem?_map, List.getElem?_eq_getElem hjl'] at cp
          simp only [Option.map_some] at cj cp
          have fj := HRW.out.frozen (jp + 1)
          have fp := HRW.out.frozen jp
          obtain ⟨xj, hxj⟩ : ∃ x, x = l[jp + 1] := ⟨_, rfl⟩
          obtain ⟨xp, hxp⟩ : ∃ x, x = l[jp] := ⟨_, rfl⟩
          rw [← hxj] at cj
          rw [← hxp] at cp
          have hwp : IntKind.i64.wrap (jp : Int) = (jp : Int) := by rw [IntKind.wrap_i64]; omega
          have jz : (jp : Int) + 1 < (l0.length : Int) := by omega
          have jz1 : (jp : Int) < (l0.length : Int) := by omega
          have hjaz' : (a : Int) < (jp : Int) + 1 := by omega
          have p0 : (0 : Int) ≤ (jp : Int) + 1 := by omega
          have e0 : ((jp : Int) + 1).toNat = jp + 1 := by omega
          have hc : ∀ m, Calls Try.prog 19 #[I xj, I xp, .pointer (some ⟨u, 0, none⟩)] (wq.drewN m) fun e w' => e = .returned (I (cf xj xp)) ∧ ∃ q, w' = (wq.drewN m).drewN q := fun m =>
            HCF.out _ (grown_trans HGR.out (drewN_grown _ _ _)) xj xp (HIN.out _ ((List.Perm.mem_iff HP.out).1 (by rw [hxj]; exact List.getElem_mem _))) (HIN.out _ ((List.Perm.mem_iff HP.out).1 (by rw [hxp]; exact List.getElem_mem _)))
          have HXJ := Lib.hid hxj
          have HXP := Lib.hid hxp
          clear hxj hxp
          by_cases hlv : cf xj xp < 0
          · go_wp2_with fail
            go_quiet ((first | (go_at_call 19; exact Calls.quiet_of (hc _)) | (go_at_fn 19; exact Calls.quiet_of (hc _))))
            go_wp2_with fail
            have hw2 : wq.drewN nq = wq.drewN nq := rfl
            have cj2 : (wq.drewN nq).cell? ⟨D, jp + 1, none⟩ = some (I xj) := cj
            have cp2 : (wq.drewN nq).cell? ⟨D, jp, none⟩ = some (I xp) := cp
            have fj2 : (wq.drewN nq).frozen? ⟨D, jp + 1, none⟩ = false := fj
            have fp2 : (wq.drewN nq).frozen? ⟨D, jp, none⟩ = false := fp
            have HRW2 : Hid (Row (wq.drewN nq) D 3 (l.map I)) := Lib.hid (HRW.out.drewN nq)
            have HGR2 : Hid (w.grownBy (wq.drewN nq) (some D)) := Lib.hid (grown_trans HGR.out (drewN_grown _ _ _))
            clear cj cp fj fp hc hw2 HRW HGR
            generalize wq.drewN nq = wq2 at cj2 cp2 fj2 fp2 HRW2 HGR2 ⊢
            obtain ⟨j1, hj1⟩ : ∃ j1, j1 = jp + 1 := ⟨_, rfl⟩
            rw [← hj1] at cj2 fj2 e0
            have J1 := Lib.hid hj1
            clear hj1
            go_big_region
            all_goals go_wp2
            go_roundg (jp - a)
            case measure => omega
            case rel =>
              refine ⟨jp, by omega, by omega, rfl, (l.set (jp + 1) xp).set jp xj, ?_, ?_, ?_⟩
              · rw [HXJ.out, HXP.out]
                exact (swap_perm l jp hjl).trans HP.out
              · rw [J1.out, List.map_set, List.map_set]
                exact ((HRW2.out.set _ _).set _ _).drewN 1
              · exact grown_trans HGR2.out (grown_trans (grown_trans (setCell_grown _ _ _ _) (setCell_grown _ _ _ _)) (drewN_grown _ 1 _))
          · go_wp2_with fail
            go_quiet ((first | (go_at_call 19; exact Calls.quiet_of (hc _)) | (go_at_fn 19; exact Calls.quiet_of (hc _))))
            go_wp2
            go_roundg (b - (i + 1) + 1)
            case measure => omega
            case rel => exact ⟨i + 1, by omega, by omega, by go_num, l, HP.out, HRW.out.drewN _, grown_trans HGR.out (drewN_grown _ _ _)⟩
        · have hjaz : decide ((j : Int) > (a : Int)) = false := decide_eq_false (by omega)
          have hjaz' : ¬ (a : Int) < (j : Int) := by omega
          go_wp2_with fail
          go_big_region
          all_goals go_wp2
          go_roundg (b - (i + 1) + 1)
          case measure => omega
          case rel => exact ⟨i + 1, by omega, by omega, by go_num, l, HP.out, HRW.out.drewN 1, grown_trans HGR.out (drewN_grown _ 1 _)⟩
    · have hltz : ¬ (i : Int) < (b : Int) := by omega
      go_wp2
      go_end0
      exact ⟨⟨_, rfl⟩, HRE.out⟩

end Go.Proofs.Ytdlcpmjhngfgkaa
