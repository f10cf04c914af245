import Derived.Test.YtdlcpmjhngfgkaaL4
import Derived.Deep.DeepCutAuto
namespace Go.Proofs.Ytdlcpmjhngfgkaa
open Go.RowKit Go.Shelf

def symT (cf : Int → Int → Int) (nn : Nat) (l : List Int) (c : Nat) : Bool := !decide (cf (l.getD (nn - 1 - c) 0) (l.getD c 0) < 0)
def symLo (a m b : Nat) : Nat := if (a + b) / 2 < m then (a + b) / 2 + m - b else a
def symHi (a m b : Nat) : Nat := if (a + b) / 2 < m then (a + b) / 2 else m
def symAt (cf : Int → Int → Int) (a m b : Nat) (l : List Int) : Nat := bsF (symT cf ((a + b) / 2 + m) l) (symHi a m b - symLo a m b) (symLo a m b) (symHi a m b)
def symRot (m s e : Nat) (l : List Int) : List Int := if s < m ∧ m < e then rotR (e - s) m (m - s) (e - m) l else l
def symR (cf : Int → Int → Int) : Nat → Nat → Nat → Nat → List Int → List Int
  | 0, _, _, _, l => l
  | f + 1, a, m, b, l =>
    if m = a + 1 then sym1 cf a b l else if b = m + 1 then sym2 cf a m l else
    let mid := (a + b) / 2
    let s := symAt cf a m b l
    let e := mid + m - s
    let l1 := symRot m s e l
    let l2 := if a < s ∧ s < mid then symR cf f a s mid l1 else l1
    if mid < e ∧ e < b then symR cf f mid e b l2 else l2

theorem insM_len (w : World) (D n u : Nat) (cf : Int → Int → Int) (hcf : CmpOk w D n u cf) (l0 : List Int) (len cap a b : Nat) (hl : l0.length = len) (hab : a ≤ b) (hb : b ≤ len) (hn : len ≤ 1000000) (hrow : Row w D 3 (l0.map I)) (hin : ∀ x ∈ l0, 0 ≤ x ∧ x < n) :
    Calls Try.prog 52 #[.slice (some ⟨D, 0, none⟩) len cap, I a, I b, cmpV u] w (SrtTo D l0 (insSort cf a b l0) w) := by
  subst hl; exact insM_any w D n u cf hcf l0 cap a b hab hb hn hrow hin
theorem rotM_len (w : World) (D u : Nat) (l0 : List Int) (len cap a m b : Nat) (hl : l0.length = len) (ham : a < m) (hmb : m < b) (hb : b ≤ len) (hn : len ≤ 1000000) (hrow : Row w D 3 (l0.map I)) :
    Calls Try.prog 72 #[.slice (some ⟨D, 0, none⟩) len cap, I a, I m, I b, cmpV u] w (SrtTo D l0 (rotR (b - a) m (m - a) (b - m) l0) w) := by
  subst hl; exact rotM_any w D u l0 cap a m b ham hmb hb hn hrow

/-- the merge of two sorted parts, so deep -/
def SymOk (f : Nat) : Prop := ∀ (w : World) (D n u : Nat) (cf : Int → Int → Int), CmpOk w D n u cf → ∀ (l0 : List Int) (len cap a m b : Nat), l0.length = len → a < m → m < b → b ≤ len → b - a ≤ f → len ≤ 1000000 → Row w D 3 (l0.map I) → (∀ x ∈ l0, 0 ≤ x ∧ x < n) →
    Calls Try.prog 53 #[.slice (some ⟨D, 0, none⟩) len cap, I a, I m, I b, cmpV u] w (SrtTo D l0 (symR cf f a m b l0) w)

theorem sym_rng {a m b : Nat} (ham : a + 1 < m) (hmb : m + 1 < b) : symLo a m b ≤ symHi a m b ∧ a ≤ symLo a m b ∧ symHi a m b ≤ m ∧ symHi a m b ≤ (a + b) / 2 ∧ ∀ c, symLo a m b ≤ c → c < symHi a m b → (a + b) / 2 + m - 1 - c < b ∧ c + 1 ≤ (a + b) / 2 + m := by
  unfold symLo symHi
  split
  · refine ⟨by omega, by omega, by omega, by omega, fun c h1 h2 => by omega⟩
  · refine ⟨by omega, by omega, by omega, by omega, fun c h1 h2 => by omega⟩

set_option maxRecDepth 1000000 in
set_option maxHeartbeats 8000000 in
theorem sym_succ (f : Nat) (ih : SymOk f) : SymOk (f + 1) := by
  intro w D n u cf hcf l0 len cap a m b hl ham hmb hb hba hn hrow hin
  by_cases h1 : m = a + 1
  · subst h1
    subst hl
    have := sym1_any w D n u cf hcf l0 cap a b hmb hb hn hrow hin
    rw [symR, if_pos rfl]
    exact this
  · by_cases h2 : b = m + 1
    · subst h2
      subst hl
      have := sym2_any w D n u cf hcf l0 cap a m (by omega) hb hn hrow hin
      rw [symR, if_neg h1, if_pos rfl]
      exact this
    · obtain ⟨mid, hmid⟩ : ∃ mid, mid = (a + b) / 2 := ⟨_, rfl⟩
      obtain ⟨lo, hlo⟩ : ∃ lo, lo = symLo a m b := ⟨_, rfl⟩
      obtain ⟨hi, hhi⟩ : ∃ hi, hi = symHi a m b := ⟨_, rfl⟩
      obtain ⟨r1, r2, r3, r4, r5⟩ := sym_rng (a := a) (m := m) (b := b) (by omega) (by omega)
      rw [← hlo, ← hhi] at r1
      rw [← hlo] at r2
      rw [← hhi] at r3
      rw [← hhi, ← hmid] at r4
      rw [← hlo, ← hhi, ← hmid] at r5
      obtain ⟨nn, hnn⟩ : ∃ nn, nn = mid + m := ⟨_, rfl⟩
      rw [← hnn] at r5
      obtain ⟨t, ht⟩ : ∃ t, t = symT cf nn l0 := ⟨_, rfl⟩
      obtain ⟨s, hs⟩ : ∃ s, s = bsF t (hi - lo) lo hi := ⟨_, rfl⟩
      have hsr := bsF_range t (hi - lo) lo hi r1
      rw [← hs] at hsr
      obtain ⟨s1, s2⟩ := hsr
      obtain ⟨l1, hl1⟩ : ∃ l1, l1 = symRot m s (nn - s) l0 := ⟨_, rfl⟩
      obtain ⟨l2, hl2⟩ : ∃ l2, l2 = (if a < s ∧ s < mid then symR cf f a s mid l1 else l1) := ⟨_, rfl⟩
      obtain ⟨R, hR⟩ : ∃ R, R = (if mid < nn - s ∧ nn - s < b then symR cf f mid (nn - s) b l2 else l2) := ⟨_, rfl⟩
      have hRR : symR cf (f + 1) a m b l0 = R := by
        rw [symR, if_neg h1, if_neg h2, hR, hl2, hl1, hs, ht, hnn, hlo, hhi, hmid]
        rfl
      rw [hRR]
      have HIH := Lib.hid ih
      have HCF := Lib.hid hcf
      have HIN := Lib.hid hin
      have HROW := Lib.hid hrow
      have HL := Lib.hid hl
      have HT := Lib.hid ht
      have HS := Lib.hid hs
      have HL1 := Lib.hid hl1
      have HL2 := Lib.hid hl2
      have HRD := Lib.hid hR
      have H5 := Lib.hid r5
      have HLO := Lib.hid hlo
      have HHI := Lib.hid hhi
      have HMID := Lib.hid hmid
      have HNN := Lib.hid hnn
      have e1 : ((m : Int) - (a : Int) == 1) = false := by simp; omega
      have e2 : ((b : Int) - (m : Int) == 1) = false := by simp; omega
      have em : ((a : Int) + (b : Int)) / 2 = (mid : Int) := by omega
      have EM := Lib.hid em
      have en : (mid : Int) + (m : Int) = (nn : Int) := by omega
      obtain ⟨p, hp⟩ : ∃ p : Nat, (nn : Int) - 1 = (p : Int) := ⟨nn - 1, by omega⟩
      have hpn : p = nn - 1 := by omega
      have HPN := Lib.hid hpn
      obtain ⟨e, he⟩ : ∃ e : Nat, (nn : Int) - (s : Int) = (e : Int) := ⟨nn - s, by omega⟩
      have hen : e = nn - s := by omega
      have HEN := Lib.hid hen
      have hlov : ((mid : Int) < (m : Int) ∧ (nn : Int) - (b : Int) = (lo : Int) ∧ hi = mid) ∨ (¬ (mid : Int) < (m : Int) ∧ lo = a ∧ hi = m) := by
        rw [hlo, hhi]
        unfold symLo symHi
        by_cases hc : (a + b) / 2 < m
        · rw [if_pos hc, if_pos hc]; omega
        · rw [if_neg hc, if_neg hc]; omega
      have heb : e ≤ b := by omega
      have hme : s < m → e ≤ len := fun _ => by omega
      have HLOV := Lib.hid hlov
      have hnb : nn ≤ 2000000 := by omega
      have hmb2 : mid < b := by omega
      have ham2 : a < mid := by omega
      clear ih hcf hin hrow hl ht hs hl1 hl2 hR hRR r5 hlo hhi hmid hnn em hpn hen hlov
      go_enter Try.func53, Try.ntmps53
      go_upto_if 140 with (with_reducible refine wpList_shr1 rfl (.tmp 132) rfl _ mid rfl EM.out ?_)
      go_cut [20, 21] (fun s20 s21 wc => s20 = I lo ∧ s21 = I hi ∧ w = wc)
      case first =>
        as_aux_lemma =>
        rcases HLOV.out with ⟨c1, c2, c3⟩ | ⟨c1, c2, c3⟩
        · have C3 := Lib.hid c3
          clear c3
          go_wp2
          go_meet
          exact ⟨rfl, by rw [C3.out], rfl⟩
        · have C2 := Lib.hid c2
          have C3 := Lib.hid c3
          clear c2 c3
          go_wp2
          go_meet
          exact ⟨by rw [C2.out], by rw [C3.out], rfl⟩
      case rest =>
        as_aux_lemma =>
        obtain ⟨rfl, rfl, rfl⟩ := hcut
        go_wp2
        go_loopg [20, 21] (hi - lo) (fun gh vi vj wr => ∃ i j : Nat, lo ≤ i ∧ i ≤ j ∧ j ≤ hi ∧ j - i ≤ gh ∧ vi = I i ∧ vj = I j ∧ Srt D w l0 l0 wr ∧ Hid (bsF t gh i j = s))
        case atStart => exact ⟨lo, hi, Nat.le_refl _, r1, Nat.le_refl _, Nat.le_refl _, rfl, rfl, Srt.refl HROW.out, Lib.hid HS.out.symm⟩
        case round =>
          as_aux_lemma =>
          obtain ⟨i, j, hai, hij, hjb, hgh, rfl, rfl, hs, hbs⟩ := hrel
          obtain ⟨wo, rfl⟩ : ∃ wo, wo = wr := ⟨_, rfl⟩
          have HSR := Lib.hid hs
          clear hs
          by_cases hlt : i < j
          · have hltz : (i : Int) < (j : Int) := by omega
            obtain ⟨h, hh⟩ : ∃ h : Nat, ((i : Int) + (j : Int)) / 2 = (h : Int) := ⟨(i + j) / 2, by omega⟩
            have hh2 : h = (i + j) / 2 := by omega
            have hr5 := H5.out h (by omega) (by omega)
            obtain ⟨q, hq⟩ : ∃ q : Nat, (p : Int) - (h : Int) = (q : Int) := ⟨p - h, by have := HPN.out; omega⟩
            have hqv : q = nn - 1 - h := by have := HPN.out; omega
            have hhl : h < l0.length := by have := HL.out; omega
            have hql : q < l0.length := by have := HL.out; omega
            have hhz : (h : Int) < (len : Int) := by have := HL.out; omega
            have hqz : (q : Int) < (len : Int) := by have := HL.out; omega
            obtain ⟨ch, fh⟩ := HSR.out.cell hhl
            obtain ⟨ca, fa⟩ := HSR.out.cell hql
            have hmh := HIN.out _ (HSR.out.mem hhl)
            have hma := HIN.out _ (HSR.out.mem hql)
            have htv : t h = !decide (cf (l0.getD q 0) (l0.getD h 0) < 0) := by rw [HT.out, hqv]; rfl
            have ew : IntKind.i64.wrap ((p : Int) - (h : Int)) = (q : Int) := by rw [IntKind.wrap_i64]; omega
            obtain ⟨xh, hxh⟩ : ∃ x, x = l0.getD h 0 := ⟨_, rfl⟩
            obtain ⟨xa, hxa⟩ : ∃ x, x = l0.getD q 0 := ⟨_, rfl⟩
            rw [← hxh] at ch hmh htv
            rw [← hxa] at ca hma htv
            have hc : ∀ m, Calls Try.prog 19 #[I xa, I xh, .pointer (some ⟨u, 0, none⟩)] (wo.drewN m) fun e w' => e = .returned (I (cf xa xh)) ∧ ∃ q, w' = (wo.drewN m).drewN q := fun m =>
              HCF.out _ (grown_trans HSR.out.grown (drewN_grown _ _ _)) xa xh hma hmh
            have HTV := Lib.hid htv
            have HH := Lib.hid hh
            have HH2 := Lib.hid hh2
            have hgk : 1 ≤ gk := by omega
            have q0 : (0 : Int) ≤ (q : Int) := by omega
            have hm1 : h < hi := by omega
            have hm2 : lo ≤ h := by omega
            have hm3 : i ≤ h := by omega
            have hm4 : j - (h + 1) ≤ gk - 1 := by omega
            have hm5 : h - i ≤ gk - 1 := by omega
            have hm6 : h + 1 ≤ j := by omega
            clear hxh hxa hmh hma htv fh fa hh hh2 hq hqv
            by_cases hlv : cf xa xh < 0
            · as_aux_lemma =>
              have hnx := bsF_no t gk i j hgk hlt (by rw [← HH2.out, HTV.out]; simpa using hlv)
              rw [hbs.out, ← HH2.out] at hnx
              have HNX := Lib.hid hnx.symm
              clear hnx hbs
              go_wp2_with (with_reducible refine wpList_shr1 rfl (.tmp 155) rfl _ h rfl HH.out ?_)
              go_quiet ((first | (go_at_call 19; exact Calls.quiet_of (hc _)) | (go_at_fn 19; exact Calls.quiet_of (hc _))))
              clear ew
              go_wp2
              go_roundg (gk - 1)
              case measure => omega
              case rel => exact ⟨i, h, hai, hm3, by omega, hm5, rfl, rfl, HSR.out.drew _, HNX⟩
            · as_aux_lemma =>
              have hlb : decide (cf xa xh < 0) = false := by simpa using hlv
              have hnx := bsF_yes t gk i j hgk hlt (by rw [← HH2.out, HTV.out]; simpa using hlv)
              rw [hbs.out, ← HH2.out] at hnx
              have HNX := Lib.hid hnx.symm
              clear hnx hbs
              go_wp2_with (with_reducible refine wpList_shr1 rfl (.tmp 155) rfl _ h rfl HH.out ?_)
              go_quiet ((first | (go_at_call 19; exact Calls.quiet_of (hc _)) | (go_at_fn 19; exact Calls.quiet_of (hc _))))
              clear ew
              go_wp2
              go_roundg (gk - 1)
              case measure => omega
              case rel => exact ⟨h + 1, j, by omega, hm6, hjb, hm4, by go_num, rfl, HSR.out.drew _, HNX⟩
          · as_aux_lemma =>
            have hsi : s = i := by rw [← hbs.out]; exact bsF_end t gk i j hlt
            subst hsi
            have hltz : ¬ (s : Int) < (j : Int) := by omega
            have hfull : ∀ (l : List Int) (W : World), Srt D w l0 l W → l.length = len ∧ (∀ x ∈ l, 0 ≤ x ∧ x < n) ∧ CmpOk W D n u cf := fun _ _ h => ⟨h.perm.length_eq.trans HL.out, fun x hx => HIN.out x ((List.Perm.mem_iff h.perm).1 hx), HCF.out.ext h.grown⟩
            have HFULL := Lib.hid hfull
            clear hbs hfull hme
            go_upto_region 39 with (fail)
            obtain ⟨c1, hc1⟩ : ∃ c1 : Bool, c1 = decide (s < m ∧ m < e) := ⟨_, rfl⟩
            have HC1 := Lib.hid hc1
            clear hc1
            go_cut [24, 185] (fun s24 s185 wc => s24 = I e ∧ s185 = .bool c1 ∧ wo = wc)
            case first =>
              as_aux_lemma =>
              rcases (by omega : (¬ (s : Int) < (m : Int)) ∨ ((s : Int) < (m : Int) ∧ ¬ (m : Int) < (e : Int)) ∨ ((s : Int) < (m : Int) ∧ (m : Int) < (e : Int))) with h | ⟨h, h2⟩ | ⟨h, h2⟩
              all_goals
                go_wp2
                go_meet
                exact ⟨rfl, by rw [HC1.out]; congr 1; simp; omega, rfl⟩
            case rest =>
            as_aux_lemma =>
            obtain ⟨rfl, rfl, rfl⟩ := hcut
            go_upto_if 185 with (fail)
            go_cut [24] (fun s24 wc => s24 = I e ∧ Srt D w l0 l1 wc)
            case first =>
              as_aux_lemma =>
              by_cases hc : s < m ∧ m < e
              · obtain rfl : c1 = true := by rw [HC1.out]; simpa using hc
                obtain ⟨hc1, hc2⟩ := hc
                have hc1z : (s : Int) < (m : Int) := by omega
                have hc2z : (m : Int) < (e : Int) := by omega
                have hel : e ≤ len := by omega
                have hl : l1 = rotR (e - s) m (m - s) (e - m) l0 := by rw [HL1.out, ← HEN.out]; unfold symRot; rw [if_pos ⟨hc1, hc2⟩]
                have HLX := Lib.hid hl
                clear hl
                go_wp2_with (first
                  | (go_at_call 72; refine (rotM_len wo D u l0 len cap s m e HL.out hc1 hc2 hel hn HSR.out.row).mono ?_; rintro e' w5 ⟨⟨v5, rfl⟩, hs5⟩; have HS5 := Lib.hid hs5; clear hs5))
                go_meet
                exact ⟨rfl, by rw [HLX.out]; exact HSR.out.trans HS5.out⟩
              · have hl : l1 = l0 := by rw [HL1.out, ← HEN.out]; unfold symRot; rw [if_neg hc]
                have HLX := Lib.hid hl
                obtain rfl : c1 = false := by rw [HC1.out]; simpa using hc
                clear hl hc
                go_wp2
                go_meet
                exact ⟨rfl, by rw [HLX.out]; exact HSR.out⟩
            case rest =>
              as_aux_lemma =>
              obtain ⟨rfl, hcut⟩ := hcut
              have HA := Lib.hid hcut
              obtain ⟨wa, rfl⟩ : ∃ wa, wa = wc := ⟨_, rfl⟩
              clear hcut
              go_upto_region 41 with (fail)
              obtain ⟨c2, hc2⟩ : ∃ c2 : Bool, c2 = decide (a < s ∧ s < mid) := ⟨_, rfl⟩
              have HC2 := Lib.hid hc2
              clear hc2
              go_cut [24, 199] (fun s24 s199 wc => s24 = I e ∧ s199 = .bool c2 ∧ wa = wc)
              case first =>
                as_aux_lemma =>
                rcases (by omega : (¬ (a : Int) < (s : Int)) ∨ ((a : Int) < (s : Int) ∧ ¬ (s : Int) < (mid : Int)) ∨ ((a : Int) < (s : Int) ∧ (s : Int) < (mid : Int))) with h | ⟨h, h2⟩ | ⟨h, h2⟩
                all_goals
                  go_wp2
                  go_meet
                  exact ⟨rfl, by rw [HC2.out]; congr 1; simp; omega, rfl⟩
              case rest =>
              as_aux_lemma =>
              obtain ⟨rfl, rfl, rfl⟩ := hcut
              go_upto_if 199 with (fail)
              go_cut [24] (fun s24 wc => s24 = I e ∧ Srt D w l0 l2 wc)
              case first =>
                as_aux_lemma =>
                by_cases hc : a < s ∧ s < mid
                · obtain rfl : c2 = true := by rw [HC2.out]; simpa using hc
                  obtain ⟨hc1, hc2⟩ := hc
                  have hc1z : (a : Int) < (s : Int) := by omega
                  have hc2z : (s : Int) < (mid : Int) := by omega
                  have hl : l2 = symR cf f a s mid l1 := by rw [HL2.out, if_pos ⟨hc1, hc2⟩]
                  have HLX := Lib.hid hl
                  have hml : mid ≤ len := by omega
                  have hmf : mid - a ≤ f := by omega
                  clear hl
                  go_wp2_with (first
                    | (go_at_call 53; refine (HIH.out wa D n u cf (HFULL.out _ _ HA.out).2.2 l1 len cap a s mid (HFULL.out _ _ HA.out).1 hc1 hc2 hml hmf hn HA.out.row (HFULL.out _ _ HA.out).2.1).mono ?_; rintro e' w5 ⟨⟨v5, rfl⟩, hs5⟩; have HS5 := Lib.hid hs5; clear hs5))
                  go_meet
                  exact ⟨rfl, by rw [HLX.out]; exact HA.out.trans HS5.out⟩
                · have hl : l2 = l1 := by rw [HL2.out, if_neg hc]
                  have HLX := Lib.hid hl
                  obtain rfl : c2 = false := by rw [HC2.out]; simpa using hc
                  clear hl hc
                  go_wp2
                  go_meet
                  exact ⟨rfl, by rw [HLX.out]; exact HA.out⟩
              case rest =>
                as_aux_lemma =>
                obtain ⟨rfl, hcut⟩ := hcut
                have HB := Lib.hid hcut
                obtain ⟨wb, rfl⟩ : ∃ wb, wb = wc := ⟨_, rfl⟩
                clear hcut
                by_cases hc : mid < e ∧ e < b
                · obtain ⟨hc1, hc2⟩ := hc
                  have hc1z : (mid : Int) < (e : Int) := by omega
                  have hc2z : (e : Int) < (b : Int) := by omega
                  have hl : R = symR cf f mid e b l2 := by rw [HRD.out, ← HEN.out, if_pos ⟨hc1, hc2⟩]
                  have HLX := Lib.hid hl
                  have hmf : b - mid ≤ f := by omega
                  clear hl
                  go_wp2_with (first
                    | (go_at_call 53; refine (HIH.out wb D n u cf (HFULL.out _ _ HB.out).2.2 l2 len cap mid e b (HFULL.out _ _ HB.out).1 hc1 hc2 hb hmf hn HB.out.row (HFULL.out _ _ HB.out).2.1).mono ?_; rintro e' w5 ⟨⟨v5, rfl⟩, hs5⟩; have HS5 := Lib.hid hs5; clear hs5))
                  go_end0
                  exact ⟨⟨_, rfl⟩, by rw [HLX.out]; exact HB.out.trans HS5.out⟩
                · have hl : R = l2 := by rw [HRD.out, ← HEN.out, if_neg hc]
                  have HLX := Lib.hid hl
                  have hw : (¬ (mid : Int) < (e : Int)) ∨ ((mid : Int) < (e : Int) ∧ ¬ (e : Int) < (b : Int)) := by omega
                  clear hl hc
                  rcases hw with h | ⟨h, h2⟩
                  all_goals
                    go_wp2
                    go_end0
                    exact ⟨⟨_, rfl⟩, by rw [HLX.out]; exact HB.out⟩
theorem symOk : ∀ f, SymOk f
  | 0 => fun w D n u cf hcf l0 len cap a m b hl ham hmb hb hba hn hrow hin => by omega
  | f + 1 => sym_succ f (symOk f)
end Go.Proofs.Ytdlcpmjhngfgkaa
