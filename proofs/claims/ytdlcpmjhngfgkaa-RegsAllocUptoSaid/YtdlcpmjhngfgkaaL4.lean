import Derived.Test.YtdlcpmjhngfgkaaL2
namespace Go.Proofs.Ytdlcpmjhngfgkaa
open Go.RowKit Go.Shelf

/-- a binary search -/
def bsF (t : Nat → Bool) : Nat → Nat → Nat → Nat
  | 0, i, _ => i
  | k + 1, i, j => if i < j then (if t ((i + j) / 2) then bsF t k ((i + j) / 2 + 1) j else bsF t k i ((i + j) / 2)) else i
theorem bsF_range (t : Nat → Bool) : ∀ (k i j : Nat), i ≤ j → i ≤ bsF t k i j ∧ bsF t k i j ≤ j
  | 0, i, j, h => ⟨Nat.le_refl _, h⟩
  | k + 1, i, j, h => by
    rw [bsF]
    split
    · split
      · have := bsF_range t k ((i + j) / 2 + 1) j (by omega); omega
      · have := bsF_range t k i ((i + j) / 2) (by omega); omega
    · exact ⟨Nat.le_refl _, h⟩
theorem bsF_end (t : Nat → Bool) (k i j : Nat) (h : ¬ i < j) : bsF t k i j = i := by
  cases k with
  | zero => rfl
  | succ k => rw [bsF, if_neg h]
theorem bsF_yes (t : Nat → Bool) (k i j : Nat) (hk : 1 ≤ k) (h : i < j) (ht : t ((i + j) / 2) = true) : bsF t k i j = bsF t (k - 1) ((i + j) / 2 + 1) j := by
  obtain ⟨k, rfl⟩ : ∃ k', k = k' + 1 := ⟨k - 1, by omega⟩
  rw [bsF, if_pos h, if_pos ht]; rfl
theorem bsF_no (t : Nat → Bool) (k i j : Nat) (hk : 1 ≤ k) (h : i < j) (ht : t ((i + j) / 2) = false) : bsF t k i j = bsF t (k - 1) i ((i + j) / 2) := by
  obtain ⟨k, rfl⟩ : ∃ k', k = k' + 1 := ⟨k - 1, by omega⟩
  rw [bsF, if_pos h, if_neg (by rw [ht]; simp)]; rfl

def upR : Nat → Nat → List Int → List Int
  | 0, _, l => l
  | n + 1, k, l => upR n (k + 1) (swpI l k (k + 1))
def downR : Nat → Nat → List Int → List Int
  | 0, _, l => l
  | n + 1, k, l => downR n (k - 1) (swpI l k (k - 1))

theorem CmpOk.ext {w W : World} {D n u : Nat} {cf : Int → Int → Int} (h : CmpOk w D n u cf) (hg : w.grownBy W (some D)) : CmpOk W D n u cf := fun W' h' => h W' (grown_trans hg h')

/-- the row's first part is one value -/
def sym1 (cf : Int → Int → Int) (a b : Nat) (l : List Int) : List Int :=
  upR (bsF (fun h => decide (cf (l.getD h 0) (l.getD a 0) < 0)) (b - (a + 1)) (a + 1) b - 1 - a) a l

theorem shr1 (x : Int) (w : World) : (Op.shift .shr .u64 x .u64 1).run Try.prog w = .ok (.int .u64 (x / 2)) w := by
  rw [shift_shr .u64 .u64 x 1 (by omega) (by decide)]
  rfl
theorem wpList_shr1 {w : World} {ops : Array Oper} {rest : List Oper} {o : Oper} {a : Act} {Q : Exit → Act → World → Prop} (hgd : o.guard = none) (x : Operand) (ho : o.op = .binOp .shr 112 x (.const (.int .u64 1)) 112) (v : Int) (k : Nat) (hx : a.eval x = .int .u64 v) (hk : v / 2 = (k : Int))
    (h : wpList Try.prog ops Q rest (a.put o.dst (.int .u64 (k : Int))) w) : wpList Try.prog ops Q (o :: rest) a w := by
  refine wpList_plain hgd fun K' hK' => ?_
  have hc : a.eval (.const (.int .u64 1)) = .int .u64 1 := rfl
  have h2 : (2 : Int) ^ min (Int.toNat 1) IntKind.u64.bits = 2 := by decide
  have e : v.fdiv (2 ^ min (Int.toNat 1) IntKind.u64.bits) = (k : Int) := by rw [h2, Int.fdiv_eq_ediv_of_nonneg _ (by omega)]; exact hk
  rw [← e] at h
  unfold Oper.wp
  simp [execOp, ho, hx, hc, binOp_shr, Result.andThen]
  exact hK' _ _ h

set_option maxRecDepth 1000000 in
set_option maxHeartbeats 4000000 in
theorem sym1_any (w : World) (D n u : Nat) (cf : Int → Int → Int) (hcf : CmpOk w D n u cf) (l0 : List Int) (cap a b : Nat) (hab : a + 1 < b) (hb : b ≤ l0.length) (hn : l0.length ≤ 1000000) (hrow : Row w D 3 (l0.map I)) (hin : ∀ x ∈ l0, 0 ≤ x ∧ x < n) :
    Calls Try.prog 53 #[.slice (some ⟨D, 0, none⟩) l0.length cap, I a, I ((a : Int) + 1), I b, cmpV u] w (SrtTo D l0 (sym1 cf a b l0) w) := by
  have HCF := Lib.hid hcf
  have HIN := Lib.hid hin
  have HR := Lib.hid hrow
  obtain ⟨t, ht⟩ : ∃ t : Nat → Bool, t = fun h => decide (cf (l0.getD h 0) (l0.getD a 0) < 0) := ⟨_, rfl⟩
  obtain ⟨r, hr⟩ : ∃ r, r = bsF t (b - (a + 1)) (a + 1) b := ⟨_, rfl⟩
  have hrr := bsF_range t (b - (a + 1)) (a + 1) b (by omega)
  rw [← hr] at hrr
  obtain ⟨hr1, hr2⟩ := hrr
  have hR : sym1 cf a b l0 = upR (r - 1 - a) a l0 := by unfold sym1; rw [hr, ht]
  rw [hR]
  have HT := Lib.hid ht
  have HRV := Lib.hid hr
  have e1 : ((a : Int) + 1 - (a : Int) == 1) = true := by simp; omega
  clear hcf hin hrow hR ht hr
  go_enter Try.func53, Try.ntmps53
  go_wp2
  go_loopg [10, 11] (b - (a + 1)) (fun gh vi vj wr => ∃ i j : Nat, a + 1 ≤ i ∧ i ≤ j ∧ j ≤ b ∧ j - i ≤ gh ∧ vi = I i ∧ vj = I j ∧ Srt D w l0 l0 wr ∧ Hid (bsF t gh i j = r))
  case atStart => exact ⟨a + 1, b, Nat.le_refl _, by omega, Nat.le_refl _, Nat.le_refl _, by go_num, rfl, Srt.refl HR.out, Lib.hid HRV.out.symm⟩
  case round =>
    obtain ⟨i, j, hai, hij, hjb, hgh, rfl, rfl, hs, hbs⟩ := hrel
    obtain ⟨wo, rfl⟩ : ∃ wo, wo = wr := ⟨_, rfl⟩
    have HS := Lib.hid hs
    clear hs
    by_cases hlt : i < j
    · have hltz : (i : Int) < (j : Int) := by omega
      obtain ⟨h, hh⟩ : ∃ h : Nat, ((i : Int) + (j : Int)) / 2 = (h : Int) := ⟨(i + j) / 2, by omega⟩
      have hh2 : h = (i + j) / 2 := by omega
      have hhl : h < l0.length := by omega
      have HH := Lib.hid hh
      have HH2 := Lib.hid hh2
      clear hh hh2
      have hal : a < l0.length := by omega
      have haz : (a : Int) < (l0.length : Int) := by omega
      have hhz : (h : Int) < (l0.length : Int) := by omega
      obtain ⟨ch, fh⟩ := HS.out.cell hhl
      obtain ⟨ca, fa⟩ := HS.out.cell hal
      have hmh := HIN.out _ (HS.out.mem hhl)
      have hma := HIN.out _ (HS.out.mem hal)
      have htv : t h = decide (cf (l0.getD h 0) (l0.getD a 0) < 0) := by rw [HT.out]
      obtain ⟨xh, hxh⟩ : ∃ x, x = l0.getD h 0 := ⟨_, rfl⟩
      obtain ⟨xa, hxa⟩ : ∃ x, x = l0.getD a 0 := ⟨_, rfl⟩
      rw [← hxh] at ch hmh htv
      rw [← hxa] at ca hma htv
      have hc : ∀ m, Calls Try.prog 19 #[I xh, I xa, .pointer (some ⟨u, 0, none⟩)] (wo.drewN m) fun e w' => e = .returned (I (cf xh xa)) ∧ ∃ q, w' = (wo.drewN m).drewN q := fun m =>
        HCF.out _ (grown_trans HS.out.grown (drewN_grown _ _ _)) xh xa hmh hma
      have HTV := Lib.hid htv
      clear hxh hxa hmh hma htv fh fa
      have hgk : 1 ≤ gk := by omega
      by_cases hlv : cf xh xa < 0
      · have hnx := bsF_yes t gk i j hgk hlt (by rw [← HH2.out, HTV.out]; simpa using hlv)
        rw [hbs.out, ← HH2.out] at hnx
        have HNX := Lib.hid hnx.symm
        clear hnx hbs
        go_wp2_with (with_reducible refine wpList_shr1 rfl (.tmp 37) rfl _ h rfl HH.out ?_)
        go_quiet ((first | (go_at_call 19; exact Calls.quiet_of (hc _)) | (go_at_fn 19; exact Calls.quiet_of (hc _))))
        go_wp2
        go_roundg (gk - 1)
        case measure => omega
        case rel => exact ⟨h + 1, j, by have := HH2.out; omega, by have := HH2.out; omega, hjb, by have := HH2.out; omega, by go_num, rfl, HS.out.drew _, HNX⟩
      · have hnx := bsF_no t gk i j hgk hlt (by rw [← HH2.out, HTV.out]; simpa using hlv)
        rw [hbs.out, ← HH2.out] at hnx
        have HNX := Lib.hid hnx.symm
        clear hnx hbs
        go_wp2_with (with_reducible refine wpList_shr1 rfl (.tmp 37) rfl _ h rfl HH.out ?_)
        go_quiet ((first | (go_at_call 19; exact Calls.quiet_of (hc _)) | (go_at_fn 19; exact Calls.quiet_of (hc _))))
        go_wp2
        go_roundg (gk - 1)
        case measure => omega
        case rel => exact ⟨i, h, hai, by have := HH2.out; omega, by have := HH2.out; omega, by have := HH2.out; omega, rfl, rfl, HS.out.drew _, HNX⟩
    · have hir : i = r := by rw [← hbs.out]; exact (bsF_end t gk i j hlt).symm
      subst hir
      have hltz : ¬ (i : Int) < (j : Int) := by omega
      clear hbs
      obtain ⟨R, hR⟩ : ∃ R, R = upR (i - 1 - a) a l0 := ⟨_, rfl⟩
      rw [← hR]
      have HRR := Lib.hid hR
      clear hR
      go_wp2
      go_loopg [13] (i - 1 - a) (fun gh vk wr => ∃ (k : Nat) (l : List Int), gh + k = i - 1 ∧ vk = I k ∧ Srt D w l0 l wr ∧ Hid (upR gh k l = R))
      case atStart => exact ⟨a, l0, by omega, rfl, HS.out, Lib.hid HRR.out.symm⟩
      case round =>
        obtain ⟨k, l, hg2, rfl, hs2, hup⟩ := hrel
        obtain ⟨wq, rfl⟩ : ∃ wq, wq = wr := ⟨_, rfl⟩
        have HS2 := Lib.hid hs2
        have hlen := hs2.perm.length_eq
        have HLE := Lib.hid hlen
        clear hs2 hlen
        by_cases hlk : k < i - 1
        · have hkz : (k : Int) < (i : Int) - 1 := by omega
          have HST : Hid (upR (i - 1 - (k + 1)) (k + 1) (swpI l k (k + 1)) = R) := Lib.hid (by
            have h := hup.out
            obtain ⟨g', rfl⟩ : ∃ g', gk = g' + 1 := ⟨gk - 1, by omega⟩
            rw [upR] at h
            rw [← h]
            congr 1
            omega)
          clear hup
          obtain ⟨q, hq⟩ : ∃ q, q = k + 1 := ⟨_, rfl⟩
          rw [← hq] at HST
          have hkl : k < l.length := by have := HLE.out; omega
          have hql : q < l.length := by have := HLE.out; omega
          obtain ⟨cp, fp⟩ := HS2.out.cell hkl
          obtain ⟨cq, fq⟩ := HS2.out.cell hql
          obtain ⟨xp, hxp⟩ : ∃ x, x = l.getD k 0 := ⟨_, rfl⟩
          obtain ⟨xq, hxq⟩ : ∃ x, x = l.getD q 0 := ⟨_, rfl⟩
          rw [← hxp] at cp
          rw [← hxq] at cq
          have HXP := Lib.hid hxp
          have HXQ := Lib.hid hxq
          have pz : (k : Int) < (l0.length : Int) := by have := HLE.out; omega
          have qz : (q : Int) < (l0.length : Int) := by have := HLE.out; omega
          have eb : IntKind.i64.wrap ((k : Int) + 1) = (q : Int) := by rw [IntKind.wrap_i64]; omega
          have eq : ((q : Int)).toNat = q := by omega
          have q0 : (0 : Int) ≤ (q : Int) := by omega
          have hne : k ≠ q := by omega
          have HQ := Lib.hid hq
          clear hxp hxq hq
          go_wp2_with fail
          go_big_region
          all_goals (clear eb; go_wp2)
          go_roundg (i - 1 - q)
          case measure => have := HQ.out; omega
          case rel =>
            have := (HS2.out.swap hkl hql).drew 1
            rw [← HXP.out, ← HXQ.out] at this
            exact ⟨q, swpI l k q, by have := HQ.out; omega, by rw [HQ.out]; go_num, this, HST⟩
        · have hkz : ¬ (k : Int) < (i : Int) - 1 := by omega
          have hfin : l = R := by
            have h := hup.out
            obtain rfl : gk = 0 := by omega
            exact h
          have HFIN := Lib.hid hfin
          clear hup hfin
          go_wp2
          go_end0
          exact ⟨⟨_, rfl⟩, by rw [← HRR.out, ← HFIN.out]; exact HS2.out⟩
end Go.Proofs.Ytdlcpmjhngfgkaa

namespace Go.Proofs.Ytdlcpmjhngfgkaa
open Go.RowKit Go.Shelf

/-- the row's last part is one value -/
def sym2 (cf : Int → Int → Int) (a m : Nat) (l : List Int) : List Int :=
  downR (m - bsF (fun h => !decide (cf (l.getD m 0) (l.getD h 0) < 0)) (m - a) a m) m l

set_option maxRecDepth 1000000 in
set_option maxHeartbeats 4000000 in
theorem sym2_any (w : World) (D n u : Nat) (cf : Int → Int → Int) (hcf : CmpOk w D n u cf) (l0 : List Int) (cap a m : Nat) (ham : a + 1 < m) (hb : m + 1 ≤ l0.length) (hn : l0.length ≤ 1000000) (hrow : Row w D 3 (l0.map I)) (hin : ∀ x ∈ l0, 0 ≤ x ∧ x < n) :
    Calls Try.prog 53 #[.slice (some ⟨D, 0, none⟩) l0.length cap, I a, I m, I ((m : Int) + 1), cmpV u] w (SrtTo D l0 (sym2 cf a m l0) w) := by
  have HCF := Lib.hid hcf
  have HIN := Lib.hid hin
  have HR := Lib.hid hrow
  obtain ⟨t, ht⟩ : ∃ t : Nat → Bool, t = fun h => !decide (cf (l0.getD m 0) (l0.getD h 0) < 0) := ⟨_, rfl⟩
  obtain ⟨r, hr⟩ : ∃ r, r = bsF t (m - a) a m := ⟨_, rfl⟩
  have hrr := bsF_range t (m - a) a m (by omega)
  rw [← hr] at hrr
  obtain ⟨hr1, hr2⟩ := hrr
  have hR : sym2 cf a m l0 = downR (m - r) m l0 := by unfold sym2; rw [hr, ht]
  rw [hR]
  have HT := Lib.hid ht
  have HRV := Lib.hid hr
  have e1 : ((m : Int) - (a : Int) == 1) = false := by simp; omega
  have e2 : ((m : Int) + 1 - (m : Int) == 1) = true := by simp; omega
  clear hcf hin hrow hR ht hr
  go_enter Try.func53, Try.ntmps53
  go_wp2
  go_loopg [14, 15] (m - a) (fun gh vi vj wr => ∃ i j : Nat, a ≤ i ∧ i ≤ j ∧ j ≤ m ∧ j - i ≤ gh ∧ vi = I i ∧ vj = I j ∧ Srt D w l0 l0 wr ∧ Hid (bsF t gh i j = r))
  case atStart => exact ⟨a, m, Nat.le_refl _, by omega, Nat.le_refl _, Nat.le_refl _, rfl, rfl, Srt.refl HR.out, Lib.hid HRV.out.symm⟩
  case round =>
    obtain ⟨i, j, hai, hij, hjb, hgh, rfl, rfl, hs, hbs⟩ := hrel
    obtain ⟨wo, rfl⟩ : ∃ wo, wo = wr := ⟨_, rfl⟩
    have HS := Lib.hid hs
    clear hs
    by_cases hlt : i < j
    · have hltz : (i : Int) < (j : Int) := by omega
      obtain ⟨h, hh⟩ : ∃ h : Nat, ((i : Int) + (j : Int)) / 2 = (h : Int) := ⟨(i + j) / 2, by omega⟩
      have hh2 : h = (i + j) / 2 := by omega
      have hhl : h < l0.length := by omega
      have HH := Lib.hid hh
      have HH2 := Lib.hid hh2
      clear hh hh2
      have hal : m < l0.length := by omega
      have haz : (m : Int) < (l0.length : Int) := by omega
      have hhz : (h : Int) < (l0.length : Int) := by omega
      obtain ⟨ch, fh⟩ := HS.out.cell hhl
      obtain ⟨ca, fa⟩ := HS.out.cell hal
      have hmh := HIN.out _ (HS.out.mem hhl)
      have hma := HIN.out _ (HS.out.mem hal)
      have htv : t h = !decide (cf (l0.getD m 0) (l0.getD h 0) < 0) := by rw [HT.out]
      obtain ⟨xh, hxh⟩ : ∃ x, x = l0.getD h 0 := ⟨_, rfl⟩
      obtain ⟨xa, hxa⟩ : ∃ x, x = l0.getD m 0 := ⟨_, rfl⟩
      rw [← hxh] at ch hmh htv
      rw [← hxa] at ca hma htv
      have hc : ∀ m, Calls Try.prog 19 #[I xa, I xh, .pointer (some ⟨u, 0, none⟩)] (wo.drewN m) fun e w' => e = .returned (I (cf xa xh)) ∧ ∃ q, w' = (wo.drewN m).drewN q := fun m =>
        HCF.out _ (grown_trans HS.out.grown (drewN_grown _ _ _)) xa xh hma hmh
      have HTV := Lib.hid htv
      clear hxh hxa hmh hma htv fh fa
      have hgk : 1 ≤ gk := by omega
      by_cases hlv : cf xa xh < 0
      · have hnx := bsF_no t gk i j hgk hlt (by rw [← HH2.out, HTV.out]; simpa using hlv)
        rw [hbs.out, ← HH2.out] at hnx
        have HNX := Lib.hid hnx.symm
        clear hnx hbs
        go_wp2_with (with_reducible refine wpList_shr1 rfl (.tmp 89) rfl _ h rfl HH.out ?_)
        go_quiet ((first | (go_at_call 19; exact Calls.quiet_of (hc _)) | (go_at_fn 19; exact Calls.quiet_of (hc _))))
        go_wp2
        go_roundg (gk - 1)
        case measure => omega
        case rel => exact ⟨i, h, hai, by have := HH2.out; omega, by have := HH2.out; omega, by have := HH2.out; omega, rfl, rfl, HS.out.drew _, HNX⟩
      · have hlb : decide (cf xa xh < 0) = false := by simpa using hlv
        have hnx := bsF_yes t gk i j hgk hlt (by rw [← HH2.out, HTV.out]; simpa using hlv)
        rw [hbs.out, ← HH2.out] at hnx
        have HNX := Lib.hid hnx.symm
        clear hnx hbs
        go_wp2_with (with_reducible refine wpList_shr1 rfl (.tmp 89) rfl _ h rfl HH.out ?_)
        go_quiet ((first | (go_at_call 19; exact Calls.quiet_of (hc _)) | (go_at_fn 19; exact Calls.quiet_of (hc _))))
        go_wp2
        go_roundg (gk - 1)
        case measure => omega
        case rel => exact ⟨h + 1, j, by have := HH2.out; omega, by have := HH2.out; omega, hjb, by have := HH2.out; omega, by go_num, rfl, HS.out.drew _, HNX⟩
    · have hir : i = r := by rw [← hbs.out]; exact (bsF_end t gk i j hlt).symm
      subst hir
      have hltz : ¬ (i : Int) < (j : Int) := by omega
      clear hbs
      obtain ⟨R, hR⟩ : ∃ R, R = downR (m - i) m l0 := ⟨_, rfl⟩
      have HRR := Lib.hid hR
      clear hR
      go_wp2
      go_loopg [17] (m - i) (fun gh vk wr => ∃ (k : Nat) (l : List Int), gh + i = k ∧ k ≤ m ∧ vk = I k ∧ Srt D w l0 l wr ∧ Hid (downR gh k l = R))
      case atStart => exact ⟨m, l0, by omega, Nat.le_refl _, rfl, HS.out, Lib.hid HRR.out.symm⟩
      case round =>
        obtain ⟨k, l, hg2, hkm, rfl, hs2, hup⟩ := hrel
        obtain ⟨wq, rfl⟩ : ∃ wq, wq = wr := ⟨_, rfl⟩
        have HS2 := Lib.hid hs2
        have hlen := hs2.perm.length_eq
        have HLE := Lib.hid hlen
        clear hs2 hlen
        by_cases hlk : i < k
        · have hkz : (i : Int) < (k : Int) := by omega
          obtain ⟨q, hq⟩ : ∃ q, k = q + 1 := ⟨k - 1, by omega⟩
          have HST : Hid (downR (q - i) q (swpI l k q) = R) := Lib.hid (by
            have h := hup.out
            obtain ⟨g', rfl⟩ : ∃ g', gk = g' + 1 := ⟨gk - 1, by omega⟩
            rw [downR, show k - 1 = q by omega, show g' = q - i by omega] at h
            exact h)
          clear hup
          have hkl : k < l.length := by have := HLE.out; omega
          have hql : q < l.length := by have := HLE.out; omega
          obtain ⟨cp, fp⟩ := HS2.out.cell hkl
          obtain ⟨cq, fq⟩ := HS2.out.cell hql
          obtain ⟨xp, hxp⟩ : ∃ x, x = l.getD k 0 := ⟨_, rfl⟩
          obtain ⟨xq, hxq⟩ : ∃ x, x = l.getD q 0 := ⟨_, rfl⟩
          rw [← hxp] at cp
          rw [← hxq] at cq
          have HXP := Lib.hid hxp
          have HXQ := Lib.hid hxq
          have pz : (k : Int) < (l0.length : Int) := by have := HLE.out; omega
          have qz : (q : Int) < (l0.length : Int) := by have := HLE.out; omega
          have eb : IntKind.i64.wrap ((k : Int) - 1) = (q : Int) := by rw [IntKind.wrap_i64]; omega
          have eq : ((q : Int)).toNat = q := by omega
          have q0 : (0 : Int) ≤ (q : Int) := by omega
          have hne : k ≠ q := by omega
          have HQ := Lib.hid hq
          have hqm : q ≤ m := by omega
          have hiq : i ≤ q := by omega
          have eb2 : (k : Int) - 1 = (q : Int) := by omega
          have EB2 := Lib.hid eb2
          clear hxp hxq hq eb2
          go_wp2_with fail
          go_big_region
          all_goals (clear eb; go_wp2)
          go_roundg (q - i)
          case measure => have := HQ.out; omega
          case rel =>
            have := (HS2.out.swap hkl hql).drew 1
            rw [← HXP.out, ← HXQ.out] at this
            exact ⟨q, swpI l k q, by omega, hqm, by rw [EB2.out], this, HST⟩
        · have hkz : ¬ (i : Int) < (k : Int) := by omega
          have hfin : l = R := by
            have h := hup.out
            obtain rfl : gk = 0 := by omega
            exact h
          have HFIN := Lib.hid hfin
          clear hup hfin
          go_wp2
          go_end0
          exact ⟨⟨_, rfl⟩, by rw [← HRR.out, ← HFIN.out]; exact HS2.out⟩
end Go.Proofs.Ytdlcpmjhngfgkaa
