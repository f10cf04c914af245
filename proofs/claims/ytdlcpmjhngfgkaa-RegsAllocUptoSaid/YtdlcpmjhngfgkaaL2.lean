import Derived.Test.YtdlcpmjhngfgkaaE9
namespace Go.Proofs.Ytdlcpmjhngfgkaa
open Go.RowKit Go.Shelf

/-- a row that has come to hold l -/
structure Srt (D : Nat) (w : World) (l0 l : List Int) (W : World) : Prop where
  perm : l.Perm l0
  row : Row W D 3 (l.map I)
  grown : w.grownBy W (some D)
theorem Srt.drew {D : Nat} {w W : World} {l0 l : List Int} (h : Srt D w l0 l W) (q : Nat) : Srt D w l0 l (W.drewN q) := ⟨h.perm, h.row.drewN q, grown_trans h.grown (drewN_grown _ _ _)⟩
theorem Srt.refl {D : Nat} {w : World} {l : List Int} (h : Row w D 3 (l.map I)) : Srt D w l l w := ⟨List.Perm.refl _, h, ⟨rfl, rfl, rfl, Nat.le_refl _, fun _ _ _ => rfl⟩⟩
theorem Srt.trans {D : Nat} {w W W' : World} {l0 l l' : List Int} (h : Srt D w l0 l W) (k : Srt D W l l' W') : Srt D w l0 l' W' := ⟨k.perm.trans h.perm, k.row, grown_trans h.grown k.grown⟩
/-- two places change what they hold -/
def swpI (l : List Int) (i j : Nat) : List Int := (l.set i (l.getD j 0)).set j (l.getD i 0)
theorem swpI_perm {l : List Int} {i j : Nat} (hi : i < l.length) (hj : j < l.length) : (swpI l i j).Perm l := by
  unfold swpI
  rw [List.getD_eq_getElem?_getD, List.getD_eq_getElem?_getD, List.getElem?_eq_getElem hi, List.getElem?_eq_getElem hj]
  exact List.set_set_perm hi hj
theorem Srt.swap {D : Nat} {w W : World} {l0 l : List Int} (h : Srt D w l0 l W) {i j : Nat} (hi : i < l.length) (hj : j < l.length) : Srt D w l0 (swpI l i j) ((W.setCell ⟨D, i, none⟩ (I (l.getD j 0))).setCell ⟨D, j, none⟩ (I (l.getD i 0))) := by
  refine ⟨(swpI_perm hi hj).trans h.perm, ?_, grown_trans h.grown (grown_trans (setCell_grown _ _ _ _) (setCell_grown _ _ _ _))⟩
  unfold swpI
  rw [List.map_set, List.map_set]
  exact (h.row.set _ _).set _ _
theorem Srt.cell {D : Nat} {w W : World} {l0 l : List Int} (h : Srt D w l0 l W) {i : Nat} (hi : i < l.length) : W.cell? ⟨D, i, none⟩ = some (I (l.getD i 0)) ∧ W.frozen? ⟨D, i, none⟩ = false := by
  refine ⟨?_, h.row.frozen i⟩
  rw [h.row.cell, List.getElem?_map, List.getElem?_eq_getElem hi, List.getD_eq_getElem?_getD, List.getElem?_eq_getElem hi]
  rfl
theorem Srt.mem {D : Nat} {w W : World} {l0 l : List Int} (h : Srt D w l0 l W) {i : Nat} (hi : i < l.length) : l.getD i 0 ∈ l0 := by
  rw [List.getD_eq_getElem?_getD, List.getElem?_eq_getElem hi]
  exact (List.Perm.mem_iff h.perm).1 (List.getElem_mem hi)

/-! ### what the insertion sort makes -/
def insDown (cf : Int → Int → Int) (a : Nat) : Nat → List Int → List Int
  | 0, l => l
  | j + 1, l => if a < j + 1 ∧ cf (l.getD (j + 1) 0) (l.getD j 0) < 0 then insDown cf a j (swpI l (j + 1) j) else l
def insRun (cf : Int → Int → Int) (a b : Nat) : Nat → Nat → List Int → List Int
  | 0, _, l => l
  | k + 1, i, l => if i < b then insRun cf a b k (i + 1) (insDown cf a i l) else l
def insSort (cf : Int → Int → Int) (a b : Nat) (l : List Int) : List Int := insRun cf a b (b - a) (a + 1) l

def SrtTo (D : Nat) (l0 R : List Int) (w : World) (e : Ending) (w' : World) : Prop := (∃ v, e = .returned v) ∧ Srt D w l0 R w'

set_option maxRecDepth 1000000 in
set_option maxHeartbeats 4000000 in
theorem insM_any (w : World) (D n u : Nat) (cf : Int → Int → Int) (hcf : CmpOk w D n u cf) (l0 : List Int) (cap a b : Nat) (hab : a ≤ b) (hb : b ≤ l0.length) (hn : l0.length ≤ 1000000) (hrow : Row w D 3 (l0.map I)) (hin : ∀ x ∈ l0, 0 ≤ x ∧ x < n) :
    Calls Try.prog 52 #[.slice (some ⟨D, 0, none⟩) l0.length cap, I a, I b, .func (.func 19) #[] #[.pointer (some ⟨u, 0, none⟩)]] w (SrtTo D l0 (insSort cf a b l0) w) := by
  have HCF := Lib.hid hcf
  have HIN := Lib.hid hin
  have HR := Lib.hid hrow
  obtain ⟨R, hR⟩ : ∃ R, R = insSort cf a b l0 := ⟨_, rfl⟩
  rw [← hR]
  have HRR := Lib.hid hR
  clear hcf hin hrow hR
  go_enter Try.func52, Try.ntmps52
  go_wp2
  go_loopg [8] (b - a) (fun gh vi wr => ∃ (i : Nat) (l : List Int), gh + i = b + 1 ∧ a < i ∧ vi = I i ∧ Srt D w l0 l wr ∧ Hid (insRun cf a b gh i l = R))
  case atStart => exact ⟨a + 1, l0, by omega, by omega, by go_num, Srt.refl HR.out, Lib.hid HRR.out.symm⟩
  case round =>
    obtain ⟨i, l, hg, hai, rfl, hre, hru⟩ := hrel
    obtain ⟨wo, rfl⟩ : ∃ wo, wo = wr := ⟨_, rfl⟩
    have HRE := Lib.hid hre
    clear hre
    by_cases hlt : i < b
    · have hltz : (i : Int) < (b : Int) := by omega
      have HST : Hid (insRun cf a b (b - (i + 1) + 1) (i + 1) (insDown cf a i l) = R) := Lib.hid (by
        have h := hru.out
        obtain ⟨gk', rfl⟩ : ∃ g', gk = g' + 1 := ⟨gk - 1, by omega⟩
        rw [insRun, if_pos hlt] at h
        rw [← h]
        congr 1
        omega)
      clear hru
      go_wp2
      go_loopg [9] (i - a) (fun gh vj wr => ∃ (j : Nat) (l' : List Int), gh + a = j ∧ j ≤ i ∧ vj = I j ∧ Srt D w l0 l' wr ∧ Hid (insDown cf a j l' = insDown cf a i l))
      case atStart => exact ⟨i, l, by omega, Nat.le_refl _, rfl, HRE.out, Lib.hid rfl⟩
      case round =>
        obtain ⟨j, l', hg', hji, rfl, hsr, hdn⟩ := hrel
        obtain ⟨wq, rfl⟩ : ∃ wq, wq = wr := ⟨_, rfl⟩
        have HSR := Lib.hid hsr
        have hlen := hsr.perm.length_eq
        have HLE := Lib.hid hlen
        clear hsr hlen
        by_cases hja : a < j
        · obtain ⟨jp, rfl⟩ : ∃ jp, j = jp + 1 := ⟨j - 1, by omega⟩
          have hjl : jp + 1 < l'.length := by have := HLE.out; omega
          have hjl' : jp < l'.length := by omega
          obtain ⟨cj, fj⟩ := HSR.out.cell hjl
          obtain ⟨cp, fp⟩ := HSR.out.cell hjl'
          have hmj := HIN.out _ (HSR.out.mem hjl)
          have hmp := HIN.out _ (HSR.out.mem hjl')
          obtain ⟨xj, hxj⟩ : ∃ x, x = l'.getD (jp + 1) 0 := ⟨_, rfl⟩
          obtain ⟨xp, hxp⟩ : ∃ x, x = l'.getD jp 0 := ⟨_, rfl⟩
          rw [← hxj] at cj hmj
          rw [← hxp] at cp hmp
          have hwp : IntKind.i64.wrap (jp : Int) = (jp : Int) := by rw [IntKind.wrap_i64]; omega
          have jz : (jp : Int) + 1 < (l0.length : Int) := by omega
          have jz1 : (jp : Int) < (l0.length : Int) := by omega
          have hjaz' : (a : Int) < (jp : Int) + 1 := by omega
          have p0 : (0 : Int) ≤ (jp : Int) + 1 := by omega
          have e0 : ((jp : Int) + 1).toNat = jp + 1 := by omega
          have hc : ∀ m, Calls Try.prog 19 #[I xj, I xp, .pointer (some ⟨u, 0, none⟩)] (wq.drewN m) fun e w' => e = .returned (I (cf xj xp)) ∧ ∃ q, w' = (wq.drewN m).drewN q := fun m =>
            HCF.out _ (grown_trans HSR.out.grown (drewN_grown _ _ _)) xj xp hmj hmp
          have HXJ := Lib.hid hxj
          have HXP := Lib.hid hxp
          clear hxj hxp hmj hmp
          by_cases hlv : cf xj xp < 0
          · have HDN2 : Hid (insDown cf a jp (swpI l' (jp + 1) jp) = insDown cf a i l) := Lib.hid (by
              have h := hdn.out
              rw [insDown, if_pos ⟨hja, by rw [← HXJ.out, ← HXP.out]; exact hlv⟩] at h
              exact h)
            clear hdn
            go_wp2_with fail
            go_quiet ((first | (go_at_call 19; exact Calls.quiet_of (hc _)) | (go_at_fn 19; exact Calls.quiet_of (hc _))))
            go_wp2_with fail
            have cj2 : (wq.drewN nq).cell? ⟨D, jp + 1, none⟩ = some (I xj) := cj
            have cp2 : (wq.drewN nq).cell? ⟨D, jp, none⟩ = some (I xp) := cp
            have fj2 : (wq.drewN nq).frozen? ⟨D, jp + 1, none⟩ = false := fj
            have fp2 : (wq.drewN nq).frozen? ⟨D, jp, none⟩ = false := fp
            have HS2 : Hid (Srt D w l0 l' (wq.drewN nq)) := Lib.hid (HSR.out.drew nq)
            clear cj cp fj fp hc HSR
            generalize wq.drewN nq = wq2 at cj2 cp2 fj2 fp2 HS2 ⊢
            obtain ⟨j1, hj1⟩ : ∃ j1, j1 = jp + 1 := ⟨_, rfl⟩
            rw [← hj1] at cj2 fj2 e0
            have J1 := Lib.hid hj1
            clear hj1
            go_big_region
            all_goals go_wp2
            go_roundg (jp - a)
            case measure => omega
            case rel =>
              refine ⟨jp, swpI l' (jp + 1) jp, by omega, by omega, rfl, ?_, HDN2⟩
              have := (HS2.out.swap hjl hjl').drew 1
              rw [← HXJ.out, ← HXP.out] at this
              rw [J1.out]
              exact this
          · have HDN2 : Hid (l' = insDown cf a i l) := Lib.hid (by
              have h := hdn.out
              rw [insDown, if_neg (fun h => hlv (by rw [HXJ.out, HXP.out]; exact h.2))] at h
              exact h)
            clear hdn
            go_wp2_with fail
            go_quiet ((first | (go_at_call 19; exact Calls.quiet_of (hc _)) | (go_at_fn 19; exact Calls.quiet_of (hc _))))
            go_wp2
            go_roundg (b - (i + 1) + 1)
            case measure => omega
            case rel => exact ⟨i + 1, l', by omega, by omega, by go_num, HSR.out.drew _, Lib.hid (by rw [HDN2.out]; exact HST.out)⟩
        · have HDN2 : Hid (l' = insDown cf a i l) := Lib.hid (by
            have h := hdn.out
            cases j with
            | zero => exact h
            | succ j => rw [insDown, if_neg (fun h => hja h.1)] at h; exact h)
          have hjaz : decide ((j : Int) > (a : Int)) = false := decide_eq_false (by omega)
          have hjaz' : ¬ (a : Int) < (j : Int) := by omega
          clear hdn
          go_wp2_with fail
          go_big_region
          all_goals go_wp2
          go_roundg (b - (i + 1) + 1)
          case measure => omega
          case rel => exact ⟨i + 1, l', by omega, by omega, by go_num, HSR.out.drew 1, Lib.hid (by rw [HDN2.out]; exact HST.out)⟩
    · have hltz : ¬ (i : Int) < (b : Int) := by omega
      have hfin : l = R := by
        have h := hru.out
        cases gk with
        | zero => exact h
        | succ g => rw [insRun, if_neg hlt] at h; exact h
      have HFIN := Lib.hid hfin
      clear hru hfin
      go_wp2
      go_end0
      exact ⟨⟨_, rfl⟩, by rw [← HFIN.out]; exact HRE.out⟩
end Go.Proofs.Ytdlcpmjhngfgkaa

namespace Go.Proofs.Ytdlcpmjhngfgkaa
open Go.RowKit Go.Shelf

def swpR (a b : Nat) : Nat → Nat → List Int → List Int
  | 0, _, l => l
  | n + 1, i, l => swpR a b n (i + 1) (swpI l (a + i) (b + i))

abbrev cmpV (u : Nat) : Value := .func (.func 19) #[] #[.pointer (some ⟨u, 0, none⟩)]

set_option maxRecDepth 1000000 in
set_option maxHeartbeats 4000000 in
theorem swpM_any (w : World) (D u : Nat) (l0 : List Int) (cap a b n : Nat) (hab : a < b) (hb : b + n ≤ l0.length) (hn : l0.length ≤ 1000000) (hrow : Row w D 3 (l0.map I)) :
    Calls Try.prog 79 #[.slice (some ⟨D, 0, none⟩) l0.length cap, I a, I b, I n, cmpV u] w (SrtTo D l0 (swpR a b n 0 l0) w) := by
  have HR := Lib.hid hrow
  obtain ⟨R, hR⟩ : ∃ R, R = swpR a b n 0 l0 := ⟨_, rfl⟩
  rw [← hR]
  have HRR := Lib.hid hR
  clear hrow hR
  go_enter Try.func79, Try.ntmps79
  go_wp2
  go_loopg [10] n (fun gh vi wr => ∃ (i : Nat) (l : List Int), gh + i = n ∧ vi = I i ∧ Srt D w l0 l wr ∧ Hid (swpR a b gh i l = R))
  case atStart => exact ⟨0, l0, rfl, rfl, Srt.refl HR.out, Lib.hid HRR.out.symm⟩
  case round =>
    obtain ⟨i, l, hg, rfl, hs, hru⟩ := hrel
    obtain ⟨wo, rfl⟩ : ∃ wo, wo = wr := ⟨_, rfl⟩
    have HS := Lib.hid hs
    have hlen := hs.perm.length_eq
    have HLE := Lib.hid hlen
    clear hs hlen
    by_cases hlt : i < n
    · have hltz : (i : Int) < (n : Int) := by omega
      have HST : Hid (swpR a b (n - (i + 1)) (i + 1) (swpI l (a + i) (b + i)) = R) := Lib.hid (by
        have h := hru.out
        obtain ⟨gk', rfl⟩ : ∃ g', gk = g' + 1 := ⟨gk - 1, by omega⟩
        rw [swpR] at h
        rw [← h]
        congr 1
        omega)
      clear hru
      obtain ⟨p, hp⟩ : ∃ p, p = a + i := ⟨_, rfl⟩
      obtain ⟨q, hq⟩ : ∃ q, q = b + i := ⟨_, rfl⟩
      rw [← hp, ← hq] at HST
      have hpq : p < q := by omega
      have hpl : p < l.length := by have := HLE.out; omega
      have hql : q < l.length := by have := HLE.out; omega
      obtain ⟨cp, fp⟩ := HS.out.cell hpl
      obtain ⟨cq, fq⟩ := HS.out.cell hql
      obtain ⟨xp, hxp⟩ : ∃ x, x = l.getD p 0 := ⟨_, rfl⟩
      obtain ⟨xq, hxq⟩ : ∃ x, x = l.getD q 0 := ⟨_, rfl⟩
      rw [← hxp] at cp
      rw [← hxq] at cq
      have HXP := Lib.hid hxp
      have HXQ := Lib.hid hxq
      have pz : (p : Int) < (l0.length : Int) := by have := HLE.out; omega
      have qz : (q : Int) < (l0.length : Int) := by have := HLE.out; omega
      have ea : IntKind.i64.wrap ((a : Int) + (i : Int)) = (p : Int) := by rw [IntKind.wrap_i64]; omega
      have eb : IntKind.i64.wrap ((b : Int) + (i : Int)) = (q : Int) := by rw [IntKind.wrap_i64]; omega
      have p0 : (0 : Int) ≤ (p : Int) := by omega
      have q0 : (0 : Int) ≤ (q : Int) := by omega
      have ep : ((p : Int)).toNat = p := by omega
      have eq : ((q : Int)).toNat = q := by omega
      have hne : p ≠ q := by omega
      have HP := Lib.hid hp
      have HQ := Lib.hid hq
      clear hxp hxq hp hq
      go_wp2_with fail
      go_big_region
      all_goals (clear ea eb; go_wp2)
      go_roundg (n - (i + 1))
      case measure => omega
      case rel =>
        have := (HS.out.swap hpl hql).drew 1
        rw [← HXP.out, ← HXQ.out] at this
        exact ⟨i + 1, swpI l p q, by omega, by go_num, this, HST⟩
    · have hfin : l = R := by
        have h := hru.out
        obtain rfl : gk = 0 := by omega
        exact h
      have hltz : ¬ (i : Int) < (n : Int) := by omega
      have HFIN := Lib.hid hfin
      clear hru hfin
      go_wp2
      go_end0
      exact ⟨⟨_, rfl⟩, by rw [← HFIN.out]; exact HS.out⟩
end Go.Proofs.Ytdlcpmjhngfgkaa

namespace Go.Proofs.Ytdlcpmjhngfgkaa
open Go.RowKit Go.Shelf

def rotR : Nat → Nat → Nat → Nat → List Int → List Int
  | 0, _, _, _, l => l
  | k + 1, m, i, j, l => if i = j then swpR (m - i) m i 0 l else if j < i then rotR k m (i - j) j (swpR (m - i) m j 0 l) else rotR k m i (j - i) (swpR (m - i) (m + j - i) i 0 l)

theorem swpM_len (w : World) (D u : Nat) (l0 : List Int) (len cap a b n : Nat) (hl : l0.length = len) (hab : a < b) (hb : b + n ≤ len) (hn : len ≤ 1000000) (hrow : Row w D 3 (l0.map I)) :
    Calls Try.prog 79 #[.slice (some ⟨D, 0, none⟩) len cap, I a, I b, I n, cmpV u] w (SrtTo D l0 (swpR a b n 0 l0) w) := by
  subst hl
  exact swpM_any w D u l0 cap a b n hab hb hn hrow

theorem SrtTo.srt {D : Nat} {l0 l R : List Int} {w W : World} {e : Ending} {w' : World} (h : Srt D w l0 l W) (k : SrtTo D l R W e w') : SrtTo D l0 R w e w' := ⟨k.1, h.trans k.2⟩

set_option maxRecDepth 1000000 in
set_option maxHeartbeats 4000000 in
theorem rotM_any (w : World) (D u : Nat) (l0 : List Int) (cap a m b : Nat) (ham : a < m) (hmb : m < b) (hb : b ≤ l0.length) (hn : l0.length ≤ 1000000) (hrow : Row w D 3 (l0.map I)) :
    Calls Try.prog 72 #[.slice (some ⟨D, 0, none⟩) l0.length cap, I a, I m, I b, cmpV u] w (SrtTo D l0 (rotR (b - a) m (m - a) (b - m) l0) w) := by
  have HR := Lib.hid hrow
  obtain ⟨R, hR⟩ : ∃ R, R = rotR (b - a) m (m - a) (b - m) l0 := ⟨_, rfl⟩
  rw [← hR]
  have HRR := Lib.hid hR
  have e1 : (m : Int) - (a : Int) = ((m - a : Nat) : Int) := by omega
  have e2 : (b : Int) - (m : Int) = ((b - m : Nat) : Int) := by omega
  have E1 := Lib.hid e1
  have E2 := Lib.hid e2
  clear hrow hR e1 e2
  go_enter Try.func72, Try.ntmps72
  go_wp2
  go_loopg [10, 11] (b - a) (fun gh vi vj wr => ∃ (i j : Nat) (l : List Int), 1 ≤ i ∧ 1 ≤ j ∧ i + j ≤ gh ∧ gh ≤ b - a ∧ i ≤ m ∧ m + j ≤ b ∧ vi = I i ∧ vj = I j ∧ Srt D w l0 l wr ∧ Hid (rotR gh m i j l = R))
  case atStart => exact ⟨m - a, b - m, l0, by omega, by omega, by omega, Nat.le_refl _, by omega, by omega, by rw [E1.out], by rw [E2.out], Srt.refl HR.out, Lib.hid HRR.out.symm⟩
  case round =>
    obtain ⟨i, j, l, hi, hj, hij, hgb, him, hjm, rfl, rfl, hs, hru⟩ := hrel
    obtain ⟨wo, rfl⟩ : ∃ wo, wo = wr := ⟨_, rfl⟩
    have HS := Lib.hid hs
    have hlen := hs.perm.length_eq
    have HLE := Lib.hid hlen
    obtain ⟨d, hd⟩ : ∃ d : Nat, (m : Int) - (i : Int) = (d : Int) := ⟨m - i, by omega⟩
    have hdm : d = m - i := by omega
    have HDM := Lib.hid hdm
    have hdlt : d < m := by omega
    clear hs hdm hlen
    by_cases hij2 : i = j
    · have hfin : swpR (m - i) m i 0 l = R := by
        have h := hru.out
        obtain ⟨g', rfl⟩ : ∃ g', gk = g' + 1 := ⟨gk - 1, by omega⟩
        rw [rotR, if_pos hij2] at h
        exact h
      rw [← HDM.out] at hfin
      have HFIN := Lib.hid hfin
      subst hij2
      have hb1 : m + i ≤ l0.length := by omega
      clear hru hfin
      go_wp2_with (first
        | (go_at_call 79; refine (swpM_len wo D u l l0.length cap d m i HLE.out hdlt hb1 hn HS.out.row).mono ?_; rintro e w5 ⟨⟨v5, rfl⟩, hs5⟩; have HS5 := Lib.hid hs5; clear hs5))
      go_end0
      exact ⟨⟨_, rfl⟩, by rw [← HFIN.out]; exact HS.out.trans HS5.out⟩
    · have hne : ((i : Int) != (j : Int)) = true := by simp; omega
      by_cases hgt : j < i
      · have hfin : rotR (gk - 1) m (i - j) j (swpR d m j 0 l) = R := by
          have h := hru.out
          obtain ⟨g', rfl⟩ : ∃ g', gk = g' + 1 := ⟨gk - 1, by omega⟩
          rw [rotR, if_neg hij2, if_pos hgt, ← HDM.out] at h
          exact h
        have HFIN := Lib.hid hfin
        have hb1 : m + j ≤ l0.length := by omega
        have hgz : (j : Int) < (i : Int) := by omega
        obtain ⟨x, hx⟩ : ∃ x : Nat, (i : Int) - (j : Int) = (x : Int) := ⟨i - j, by omega⟩
        have hxn : x = i - j := by omega
        have HXN := Lib.hid hxn
        clear hru hfin hxn hij2
        go_wp2_with (first
          | (go_at_call 79; refine (swpM_len wo D u l l0.length cap d m j HLE.out hdlt hb1 hn HS.out.row).mono ?_; rintro e w5 ⟨⟨v5, rfl⟩, hs5⟩; have HS5 := Lib.hid hs5; clear hs5))
        go_roundg (gk - 1)
        case measure => omega
        case rel => exact ⟨x, j, _, by have := HXN.out; omega, hj, by have := HXN.out; omega, by omega, by have := HXN.out; omega, hjm, rfl, rfl, HS.out.trans HS5.out, Lib.hid (by rw [HXN.out]; exact HFIN.out)⟩
      · have hfin : rotR (gk - 1) m i (j - i) (swpR d (m + j - i) i 0 l) = R := by
          have h := hru.out
          obtain ⟨g', rfl⟩ : ∃ g', gk = g' + 1 := ⟨gk - 1, by omega⟩
          rw [rotR, if_neg hij2, if_neg hgt, ← HDM.out] at h
          exact h
        obtain ⟨y, hy⟩ : ∃ y : Nat, (m : Int) + (j : Int) - (i : Int) = (y : Int) := ⟨m + j - i, by omega⟩
        have hyn : y = m + j - i := by omega
        rw [← hyn] at hfin
        have HFIN := Lib.hid hfin
        have hdy : d < y := by have := HDM.out; omega
        have hb1 : y + i ≤ l0.length := by omega
        have hgz : ¬ (j : Int) < (i : Int) := by omega
        obtain ⟨x, hx⟩ : ∃ x : Nat, (j : Int) - (i : Int) = (x : Int) := ⟨j - i, by omega⟩
        have hxn : x = j - i := by omega
        have HXN := Lib.hid hxn
        clear hru hfin hxn hyn
        go_wp2_with (first
          | (go_at_call 79; refine (swpM_len wo D u l l0.length cap d y i HLE.out hdy hb1 hn HS.out.row).mono ?_; rintro e w5 ⟨⟨v5, rfl⟩, hs5⟩; have HS5 := Lib.hid hs5; clear hs5))
        go_roundg (gk - 1)
        case measure => omega
        case rel => exact ⟨i, x, _, hi, by have := HXN.out; omega, by have := HXN.out; omega, by omega, him, by have := HXN.out; omega, rfl, rfl, HS.out.trans HS5.out, Lib.hid (by rw [HXN.out]; exact HFIN.out)⟩
end Go.Proofs.Ytdlcpmjhngfgkaa
