import Derived.Test.YtdlcpmjhngfgkaaL5
import Derived.Test.YtdlcpmjhngfgkaaF1
namespace Go.Proofs.Ytdlcpmjhngfgkaa
open Go.RowKit Go.Shelf

/-! ### what the stable sort makes -/
def blkRun (cf : Int → Int → Int) (n : Nat) : Nat → Nat → List Int → List Int
  | 0, _, l => l
  | k + 1, a, l => if a + 20 ≤ n then blkRun cf n k (a + 20) (insSort cf a (a + 20) l) else insSort cf a n l
def mrgIn (cf : Int → Int → Int) (n bs : Nat) : Nat → Nat → List Int → List Int
  | 0, _, l => l
  | k + 1, a, l => if a + 2 * bs ≤ n then mrgIn cf n bs k (a + 2 * bs) (symR cf n a (a + bs) (a + 2 * bs) l) else if a + bs < n then symR cf n a (a + bs) n l else l
def mrgOut (cf : Int → Int → Int) (n : Nat) : Nat → Nat → List Int → List Int
  | 0, _, l => l
  | k + 1, bs, l => if bs < n then mrgOut cf n k (2 * bs) (mrgIn cf n bs (n + 1) 0 l) else l
def stab (cf : Int → Int → Int) (n : Nat) (l : List Int) : List Int := mrgOut cf n n 20 (blkRun cf n (n + 1) 0 l)

theorem mrgOut_end (cf : Int → Int → Int) (n k bs : Nat) (l : List Int) (h : ¬ bs < n) : mrgOut cf n k bs l = l := by
  cases k with
  | zero => rfl
  | succ k => rw [mrgOut, if_neg h]
theorem mrgOut_on (cf : Int → Int → Int) (n k bs : Nat) (l : List Int) (hk : 1 ≤ k) (h : bs < n) : mrgOut cf n k bs l = mrgOut cf n (k - 1) (2 * bs) (mrgIn cf n bs (n + 1) 0 l) := by
  obtain ⟨k, rfl⟩ : ∃ k', k = k' + 1 := ⟨k - 1, by omega⟩
  rw [mrgOut, if_pos h]; rfl
theorem mrgIn_on (cf : Int → Int → Int) (n bs k a : Nat) (l : List Int) (hk : 1 ≤ k) (h : a + 2 * bs ≤ n) : mrgIn cf n bs k a l = mrgIn cf n bs (k - 1) (a + 2 * bs) (symR cf n a (a + bs) (a + 2 * bs) l) := by
  obtain ⟨k, rfl⟩ : ∃ k', k = k' + 1 := ⟨k - 1, by omega⟩
  rw [mrgIn, if_pos h]; rfl
theorem mrgIn_last (cf : Int → Int → Int) (n bs k a : Nat) (l : List Int) (hk : 1 ≤ k) (h : ¬ a + 2 * bs ≤ n) : mrgIn cf n bs k a l = if a + bs < n then symR cf n a (a + bs) n l else l := by
  obtain ⟨k, rfl⟩ : ∃ k', k = k' + 1 := ⟨k - 1, by omega⟩
  rw [mrgIn, if_neg h]
theorem blkRun_on (cf : Int → Int → Int) (n k a : Nat) (l : List Int) (hk : 1 ≤ k) (h : a + 20 ≤ n) : blkRun cf n k a l = blkRun cf n (k - 1) (a + 20) (insSort cf a (a + 20) l) := by
  obtain ⟨k, rfl⟩ : ∃ k', k = k' + 1 := ⟨k - 1, by omega⟩
  rw [blkRun, if_pos h]; rfl
theorem blkRun_last (cf : Int → Int → Int) (n k a : Nat) (l : List Int) (hk : 1 ≤ k) (h : ¬ a + 20 ≤ n) : blkRun cf n k a l = insSort cf a n l := by
  obtain ⟨k, rfl⟩ : ∃ k', k = k' + 1 := ⟨k - 1, by omega⟩
  rw [blkRun, if_neg h]

set_option maxRecDepth 100000 in
set_option maxHeartbeats 4000000 in
theorem stabM_any (w : World) (D n u : Nat) (cf : Int → Int → Int) (hcf : CmpOk w D n u cf) (l0 : List Int) (len cap : Nat) (hl : l0.length = len) (hn : len ≤ 1000000) (hrow : Row w D 3 (l0.map I)) (hin : ∀ x ∈ l0, 0 ≤ x ∧ x < n) :
    Calls Try.prog 37 #[.slice (some ⟨D, 0, none⟩) len cap, I len, cmpV u] w (SrtTo D l0 (stab cf len l0) w) := by
  obtain ⟨R, hR⟩ : ∃ R, R = stab cf len l0 := ⟨_, rfl⟩
  obtain ⟨B, hB⟩ : ∃ B, B = blkRun cf len (len + 1) 0 l0 := ⟨_, rfl⟩
  have hRB : mrgOut cf len len 20 B = R := by rw [hR, hB]; rfl
  rw [← hR]
  have hfull : ∀ (l : List Int) (W : World), Srt D w l0 l W → l.length = len ∧ (∀ x ∈ l, 0 ≤ x ∧ x < n) ∧ CmpOk W D n u cf := fun _ _ h => ⟨h.perm.length_eq.trans hl, fun x hx => hin x ((List.Perm.mem_iff h.perm).1 hx), hcf.ext h.grown⟩
  have HFULL := Lib.hid hfull
  have HR := Lib.hid hrow
  have HB := Lib.hid hB
  have HRB := Lib.hid hRB
  clear hcf hin hrow hR hB hRB hfull hl
  go_enter Try.func37, Try.ntmps37
  go_wp2
  go_loopg [7, 8] (len + 1) (fun gh va vb wr => ∃ (a : Nat) (l : List Int), va = I a ∧ vb = I ((a + 20 : Nat) : Int) ∧ a ≤ len ∧ len + 1 ≤ gh + a ∧ Srt D w l0 l wr ∧ Hid (blkRun cf len gh a l = B))
  case atStart => exact ⟨0, l0, rfl, rfl, by omega, by omega, Srt.refl HR.out, Lib.hid HB.out.symm⟩
  case round =>
    obtain ⟨a, l, rfl, rfl, hal, hg, hs, hbr⟩ := hrel
    obtain ⟨wo, rfl⟩ : ∃ wo, wo = wr := ⟨_, rfl⟩
    have HS := Lib.hid hs
    clear hs
    obtain ⟨b, hb⟩ : ∃ b, b = a + 20 := ⟨_, rfl⟩
    rw [← hb]
    by_cases hlt : b ≤ len
    · have hltz : (b : Int) ≤ (len : Int) := by omega
      have hon := blkRun_on cf len gk a l (by omega) (by omega)
      rw [hbr.out, ← hb] at hon
      have HON := Lib.hid hon.symm
      have ew : IntKind.i64.wrap ((b : Int) + 20) = ((b + 20 : Nat) : Int) := by rw [IntKind.wrap_i64]; omega
      have hab : a ≤ b := by omega
      have HB2 := Lib.hid hb
      clear hon hbr hb
      go_wp2_with (first
        | (go_at_call 52; refine (insM_len wo D n u cf (HFULL.out _ _ HS.out).2.2 l len cap a b (HFULL.out _ _ HS.out).1 hab hlt hn HS.out.row (HFULL.out _ _ HS.out).2.1).mono ?_; rintro e' w5 ⟨⟨v5, rfl⟩, hs5⟩; have HS5 := Lib.hid hs5; clear hs5))
      go_roundg (gk - 1)
      case measure => have := HB2.out; omega
      case rel => exact ⟨b, _, rfl, by first | rfl | go_num, hlt, by have := HB2.out; omega, HS.out.trans HS5.out, HON⟩
    · have hltz : ¬ (b : Int) ≤ (len : Int) := by omega
      have hla := blkRun_last cf len gk a l (by omega) (by omega)
      rw [hbr.out] at hla
      have HLA := Lib.hid hla.symm
      clear hla hbr hb
      go_wp2_with (first
        | (go_at_call 52; refine (insM_len wo D n u cf (HFULL.out _ _ HS.out).2.2 l len cap a len (HFULL.out _ _ HS.out).1 hal (Nat.le_refl _) hn HS.out.row (HFULL.out _ _ HS.out).2.1).mono ?_; rintro e' w5 ⟨⟨v5, rfl⟩, hs5⟩; rw [HLA.out] at hs5; have HS5 := Lib.hid hs5; clear hs5))
      have hs6 := HS.out.trans HS5.out
      have HS6 := Lib.hid hs6
      clear hs6 HS5 HS
      go_loopg [6] len (fun gh vs wr => ∃ (bs : Nat) (l : List Int), vs = I bs ∧ 20 ≤ bs ∧ bs ≤ 2000000 ∧ len ≤ gh + bs ∧ Srt D w l0 l wr ∧ Hid (mrgOut cf len gh bs l = R))
      case atStart => exact ⟨20, _, rfl, by omega, by omega, by omega, HS6.out, HRB⟩
      case round =>
        obtain ⟨bs, l1, rfl, hb1, hb2, hg2, hs2, hmo⟩ := hrel
        obtain ⟨wp, rfl⟩ : ∃ wp, wp = wr := ⟨_, rfl⟩
        obtain ⟨g1, rfl⟩ : ∃ g1, g1 = gk := ⟨_, rfl⟩
        have HS2 := Lib.hid hs2
        clear hs2
        by_cases hlb : bs < len
        · have hlbz : (bs : Int) < (len : Int) := by omega
          have hon := mrgOut_on cf len g1 bs l1 (by omega) hlb
          rw [hmo.out] at hon
          obtain ⟨M, hM⟩ : ∃ M, M = mrgIn cf len bs (len + 1) 0 l1 := ⟨_, rfl⟩
          rw [← hM] at hon
          have HM := Lib.hid hM.symm
          have hgk1 : 1 ≤ g1 := by omega
          obtain ⟨b2, hbb⟩ : ∃ b2 : Nat, b2 = 2 * bs := ⟨_, rfl⟩
          have ew2 : 2 * (bs : Int) = (b2 : Int) := by omega
          have ew3 : (bs : Int) * 2 = (b2 : Int) := by omega
          rw [← hbb] at hon
          have HON := Lib.hid hon.symm
          have HBB := Lib.hid hbb
          have hb2l : b2 ≤ 2000000 := by omega
          have hb20 : 40 ≤ b2 := by omega
          have hg3 : len ≤ g1 - 1 + b2 := by omega
          clear hon hM hmo hbb
          go_wp2
          go_loopg [7, 8] (len + 1) (fun gh va vb wr => ∃ (a : Nat) (l : List Int), va = I a ∧ vb = I ((a + b2 : Nat) : Int) ∧ a ≤ len ∧ len + 1 ≤ gh + a ∧ Srt D w l0 l wr ∧ Hid (mrgIn cf len bs gh a l = M))
          case atStart => exact ⟨0, l1, rfl, by first | rfl | simp, by omega, by omega, HS2.out, HM⟩
          case round =>
            obtain ⟨a3, l3, rfl, rfl, hal3, hg4, hs3, hmi⟩ := hrel
            obtain ⟨wq, rfl⟩ : ∃ wq, wq = wr := ⟨_, rfl⟩
            have HS3 := Lib.hid hs3
            clear hs3
            obtain ⟨b3, hb3⟩ : ∃ b3, b3 = a3 + b2 := ⟨_, rfl⟩
            obtain ⟨m3, hm3⟩ : ∃ m3, m3 = a3 + bs := ⟨_, rfl⟩
            rw [← hb3]
            have hb3l : b3 ≤ 3000000 := by omega
            have em : (a3 : Int) + (bs : Int) = (m3 : Int) := by omega
            obtain ⟨b4, hb4⟩ : ∃ b4, b4 = b3 + b2 := ⟨_, rfl⟩
            have eb : (b3 : Int) + (b2 : Int) = (b4 : Int) := by omega
            have hb4l : b4 ≤ 6000000 := by omega
            have HB4 := Lib.hid hb4
            clear hb4
            by_cases hlt3 : b3 ≤ len
            · have hltz3 : (b3 : Int) ≤ (len : Int) := by omega
              have hon := mrgIn_on cf len bs gk a3 l3 (by omega) (by have := HBB.out; omega)
              rw [hmi.out, ← HBB.out, ← hm3, ← hb3] at hon
              have HON3 := Lib.hid hon.symm
              have ham3 : a3 < m3 := by omega
              have hmb3 : m3 < b3 := by have := HBB.out; omega
              have hbl3 : b3 - a3 ≤ len := by omega
              have hm1 : gk - 1 < gk := by omega
              have hm2 : len + 1 ≤ gk - 1 + b3 := by omega
              clear hon hmi hb3 hm3
              go_wp2_with (first
                | (go_at_call 53; refine (symOk len wq D n u cf (HFULL.out _ _ HS3.out).2.2 l3 len cap a3 m3 b3 (HFULL.out _ _ HS3.out).1 ham3 hmb3 hlt3 hbl3 hn HS3.out.row (HFULL.out _ _ HS3.out).2.1).mono ?_; rintro e' w5 ⟨⟨v5, rfl⟩, hs5⟩; have HS5 := Lib.hid hs5; clear hs5))
              go_roundg (gk - 1)
              case measure => exact hm1
              case rel => exact ⟨b3, _, rfl, by rw [← HB4.out], hlt3, hm2, HS3.out.trans HS5.out, HON3⟩
            · have hltz3 : ¬ (b3 : Int) ≤ (len : Int) := by omega
              have hla := mrgIn_last cf len bs gk a3 l3 (by omega) (by have := HBB.out; omega)
              rw [hmi.out, ← hm3] at hla
              by_cases hml : m3 < len
              · have hmz : (m3 : Int) < (len : Int) := by omega
                rw [if_pos hml] at hla
                have HLA := Lib.hid hla.symm
                have ham3 : a3 < m3 := by omega
                have hbl3 : len - a3 ≤ len := by omega
                clear hla hmi hb3 hm3
                go_wp2_with (first
                  | (go_at_call 53; refine (symOk len wq D n u cf (HFULL.out _ _ HS3.out).2.2 l3 len cap a3 m3 len (HFULL.out _ _ HS3.out).1 ham3 hml (Nat.le_refl _) hbl3 hn HS3.out.row (HFULL.out _ _ HS3.out).2.1).mono ?_; rintro e' w5 ⟨⟨v5, rfl⟩, hs5⟩; rw [HLA.out] at hs5; have HS5 := Lib.hid hs5; clear hs5))
                go_roundg (g1 - 1)
                case measure => omega
                case rel => exact ⟨b2, M, by first | rfl | go_num, by omega, hb2l, hg3, HS3.out.trans HS5.out, HON⟩
              · have hmz : ¬ (m3 : Int) < (len : Int) := by omega
                rw [if_neg hml] at hla
                have HLA := Lib.hid hla
                clear hla hmi hb3 hm3
                go_wp2
                go_roundg (g1 - 1)
                case measure => omega
                case rel => exact ⟨b2, M, by first | rfl | go_num, by omega, hb2l, hg3, by rw [HLA.out]; exact HS3.out, HON⟩
        · have hlbz : ¬ (bs : Int) < (len : Int) := by omega
          have hen := mrgOut_end cf len g1 bs l1 hlb
          rw [hmo.out] at hen
          have HEN := Lib.hid hen
          clear hen hmo
          go_wp2
          go_end0
          exact ⟨⟨_, rfl⟩, by rw [HEN.out]; exact HS2.out⟩

set_option maxRecDepth 100000 in
set_option maxHeartbeats 1000000 in
theorem sortM_any (w : World) (D n u : Nat) (cf : Int → Int → Int) (hcf : CmpOk w D n u cf) (l0 : List Int) (cap : Nat) (hn : l0.length ≤ 1000000) (hrow : Row w D 3 (l0.map I)) (hin : ∀ x ∈ l0, 0 ≤ x ∧ x < n) :
    Calls Try.prog 18 #[.slice (some ⟨D, 0, none⟩) l0.length cap, cmpV u] w (SrtTo D l0 (stab cf l0.length l0) w) := by
  have HCF := Lib.hid hcf
  have HIN := Lib.hid hin
  have HR := Lib.hid hrow
  clear hcf hin hrow
  go_enter Try.func18, Try.ntmps18
  go_wp2_with (first
    | (go_at_call 37; refine (stabM_any _ D n u cf HCF.out l0 _ cap rfl hn HR.out HIN.out).mono ?_; rintro e w1 ⟨⟨v1, rfl⟩, hre⟩; have HRE := Lib.hid hre; clear hre))
  go_end0
  exact ⟨⟨_, rfl⟩, HRE.out⟩
end Go.Proofs.Ytdlcpmjhngfgkaa

namespace Go.Proofs.Ytdlcpmjhngfgkaa
open Go.RowKit Go.Shelf

/-- the first place that none of these is: a register as long as there are any, else a slot -/
structure FirstFree (reg : Nat) (H : List Int) (p : Int) : Prop where
  free : p ∉ H
  lt : p < reg
  regs : ∀ q : Nat, q < reg → (q : Int) ∉ H → p ≤ q ∧ 0 ≤ p
  slots : p < 0 → ∀ q : Int, p < q → q < 0 → q ∈ H
theorem FirstFree.one {reg : Nat} {H H' : List Int} (hh : ∀ q, q ∈ H ↔ q ∈ H') {p p' : Int} (h : FirstFree reg H p) (h' : FirstFree reg H' p') : p = p' := by
  by_cases h0 : 0 ≤ p
  · obtain ⟨q, rfl⟩ : ∃ q : Nat, p = q := ⟨p.toNat, by omega⟩
    have h1 := h.lt
    obtain ⟨h2, h3⟩ := h'.regs q (by omega) (fun e => h.free ((hh _).2 e))
    obtain ⟨q', rfl⟩ : ∃ q : Nat, p' = q := ⟨p'.toNat, by omega⟩
    have h4 := h'.lt
    obtain ⟨h5, h6⟩ := h.regs q' (by omega) (fun e => h'.free ((hh _).1 e))
    omega
  · by_cases h1 : 0 ≤ p'
    · obtain ⟨q', rfl⟩ : ∃ q : Nat, p' = q := ⟨p'.toNat, by omega⟩
      have h4 := h'.lt
      obtain ⟨h5, h6⟩ := h.regs q' (by omega) (fun e => h'.free ((hh _).1 e))
      omega
    · rcases Int.lt_trichotomy p p' with h2 | h2 | h2
      · exact absurd ((hh _).1 (h.slots (by omega) p' h2 (by omega))) h'.free
      · exact h2
      · exact absurd ((hh _).2 (h'.slots (by omega) p h2 (by omega))) h.free

/-- so many values have had their places, one behind the other -/
inductive Ran (S : Int × Int → Prop) (n reg : Nat) (order : List Int) : Nat → List Int → List Bool → Prop
  | start : Ran S n reg order 0 (List.replicate n 0) (List.replicate n false)
  | step {k : Nat} {out : List Int} {done : List Bool} {y : Nat} {l : List Int} {p : Int} : Ran S n reg order k out done → order[k]? = some (y : Int) → (∀ b, b ∈ l ↔ S (pairOf y b)) → FirstFree reg (hadL l out done) p → Ran S n reg order (k + 1) (out.set y p) (done.set y true)

theorem hadL_mem {l l' : List Int} (h : ∀ b, b ∈ l ↔ b ∈ l') (ts : List Int) (ds : List Bool) (q : Int) : q ∈ hadL l ts ds ↔ q ∈ hadL l' ts ds := by
  unfold hadL
  rw [List.mem_filterMap, List.mem_filterMap]
  constructor
  · rintro ⟨a, h1, h2⟩; exact ⟨a, (h a).1 h1, h2⟩
  · rintro ⟨a, h1, h2⟩; exact ⟨a, (h a).2 h1, h2⟩

theorem Ran.one {S : Int × Int → Prop} {n reg : Nat} {order : List Int} : ∀ {k : Nat} {out out' : List Int} {done done' : List Bool}, Ran S n reg order k out done → Ran S n reg order k out' done' → out = out' ∧ done = done'
  | _, _, _, _, _, .start, .start => ⟨rfl, rfl⟩
  | _, _, _, _, _, .step (l := l) h ho hl hf, .step (l := l') h' ho' hl' hf' => by
    obtain ⟨rfl, rfl⟩ := Ran.one h h'
    rw [ho] at ho'
    have hy := Option.some.inj ho'
    have hy2 := Int.ofNat.inj hy
    subst hy2
    have := FirstFree.one (hadL_mem (fun b => (hl b).trans (hl' b).symm) _ _) hf hf'
    subst this
    exact ⟨rfl, rfl⟩

set_option maxRecDepth 100000 in
set_option maxHeartbeats 2000000 in
theorem freeD_any (w : World) (ov tv dv : Value) (l ts : List Int) (ds : List Bool) (hl : RInts w ov l) (ht : RInts w tv ts) (hd : RSl 1 RBool w dv ds) (hn : ts.length = ds.length) (hr : ∀ v ∈ l, 0 ≤ v ∧ v < ts.length) (reg : Nat) (hreg : reg ≤ 32) (B : Nat) (hB : B ≤ 1000000) (hlo : ∀ p ∈ hadL l ts ds, -(B : Int) ≤ p) :
    Calls Try.prog 20 #[ov, tv, dv, I reg] w fun e w' => ∃ p : Int, e = .returned (I p) ∧ FirstFree reg (hadL l ts ds) p ∧ -(B : Int) - 1 ≤ p ∧ Below w.heap.size w w' := by
  have hmm := @run_makeMap Try.prog
  obtain ⟨a0, c0, rfl, hlen⟩ := RSl.form hl
  obtain ⟨a1, c1, rfl, hlen1⟩ := RSl.form ht
  obtain ⟨a2, c2, rfl, hlen2⟩ := RSl.form hd
  have HL := Lib.hid hl
  have HT := Lib.hid ht
  have HD := Lib.hid hd
  have HR := Lib.hid hr
  have HN := Lib.hid hn
  clear hl ht hd hr hn
  go_enter Try.func20, Try.ntmps20
  go_wp2
  go_loopg [21] l.length (fun gh i wr => ∃ (k : Nat) (S : List Int), gh + k = l.length ∧ i = I k ∧ Below w.heap.size w wr ∧ SetAt wr w.heap.size (S.map I) ∧ ∀ p, p ∈ S ↔ p ∈ hadL (l.take k) ts ds)
  case atStart => exact ⟨0, [], rfl, rfl, below_a1 _ _, setAt_new w, fun p => by simp [hadL]⟩
  case round =>
    obtain ⟨k, S, hg, rfl, hb, hs, hS⟩ := hrel
    obtain ⟨wo, rfl⟩ : ∃ wo, wo = wr := ⟨_, rfl⟩
    have HB := Lib.hid hb
    have HS := Lib.hid hs
    have HSS := Lib.hid hS
    clear hb hs hS
    by_cases hlt : k < l.length
    · obtain ⟨b, o, c, he, hc, hi⟩ := RInts.at (HL.out.below HB.out) hlt
      obtain ⟨rfl, rfl⟩ : a0 = some ⟨b, o, none⟩ ∧ c0 = c := by simpa using he
      clear he
      have hrk := HR.out l[k] (List.getElem_mem hlt)
      obtain ⟨y, hy⟩ : ∃ y : Nat, l[k] = (y : Int) := ⟨l[k].toNat, by omega⟩
      rw [hy] at hc hrk
      have hyt : y < ts.length := by omega
      have hyd : y < ds.length := by have := HN.out; omega
      have hy1 : (y : Int) < (ds.length : Int) := by omega
      have hy2 : (y : Int) < (ts.length : Int) := by omega
      obtain ⟨b1, o1, c1', he1, hc1, hi1⟩ := RInts.at (HT.out.below HB.out) hyt
      obtain ⟨rfl, rfl⟩ : a1 = some ⟨b1, o1, none⟩ ∧ c1 = c1' := by simpa using he1
      obtain ⟨b2, o2, c2', C, he2, hC, hC2⟩ := RSl.at HD.out hyd
      obtain ⟨rfl, rfl⟩ : a2 = some ⟨b2, o2, none⟩ ∧ c2 = c2' := by simpa using he2
      have hc2 := hC 0 (by decide)
      rw [show C 0 = _ from hC2, ← HB.out.cell (p := ⟨b2, o2 + y * 1 + 0, none⟩) (World.block_lt_of_cell? w _ (hC 0 (by decide)))] at hc2
      simp only [Nat.mul_one, Nat.add_zero] at hc2
      have hstep : hadL (l.take (k + 1)) ts ds = hadL (l.take k) ts ds ++ (if ds[y] = true then [ts[y]] else []) := by
        unfold hadL
        rw [List.take_add_one, List.getElem?_eq_getElem hlt, List.filterMap_append]
        congr 1
        simp only [Option.toList_some, List.filterMap_cons, List.filterMap_nil, hy, Int.toNat_natCast]
        rw [List.getElem?_eq_getElem hyd, List.getElem?_eq_getElem hyt]
        cases ds[y] <;> simp
      have HST := Lib.hid hstep
      have HY := Lib.hid hy
      clear hstep hy he1 he2 hC hC2
      cases hdy : ds[y]
      · rw [hdy] at hc2
        have HDY := Lib.hid hdy
        clear hdy
        go_wp2
        go_roundg (l.length - (k + 1))
        case measure => omega
        case rel =>
          refine ⟨k + 1, S, by omega, by go_num, HB.out, HS.out, fun p => ?_⟩
          rw [HST.out, HDY.out, HSS.out p]; simp
      · rw [hdy] at hc2
        have HDY := Lib.hid hdy
        clear hdy
        go_wp2_with (first
          | (at_mapUpdate; refine wpList_putS keyInt Try.underlying77 rfl _ _ _ rfl w.heap.size _ ts[y] rfl rfl rfl HS.out ?_; intro w2 hs2 hg2 hz2; have HS2 := Lib.hid hs2; have HG2 := Lib.hid hg2; have HZ2 := Lib.hid hz2; clear hs2 hg2 hz2))
        go_roundg (l.length - (k + 1))
        case measure => omega
        case rel =>
          refine ⟨k + 1, _, by omega, by go_num, HB.out.grown HG2.out HB.out.size (fun r e => by cases e; exact Nat.le_refl _), HS2.out, fun p => ?_⟩
          rw [HST.out, HDY.out, mem_insL, HSS.out p]; simp [or_comm]
    · have hkl : l.take k = l := List.take_of_length_le (by omega)
      rw [hkl] at HSS
      have hmS : ∀ p : Int, p ∈ S → -(B : Int) ≤ p := fun p hp => hlo p ((HSS.out p).1 hp)
      have HMS := Lib.hid hmS
      clear hmS
      go_wp2
      go_loopg [37] reg (fun gh i wr => ∃ q : Nat, gh + q = reg ∧ i = I q ∧ Below w.heap.size w wr ∧ SetAt wr w.heap.size (S.map I) ∧ ∀ q' : Nat, q' < q → (q' : Int) ∈ S)
      case atStart => exact ⟨0, rfl, rfl, HB.out, HS.out, fun q' h => by omega⟩
      case round =>
        obtain ⟨q, hq, rfl, hb2, hs2, hrg⟩ := hrel
        obtain ⟨wx, rfl⟩ : ∃ wx, wx = wr := ⟨_, rfl⟩
        have HB2 := Lib.hid hb2
        have HS2 := Lib.hid hs2
        have HRG := Lib.hid hrg
        clear hb2 hs2 hrg
        by_cases hlt2 : q < reg
        · by_cases hqS : (q : Int) ∈ S
          all_goals
            have HQ := Lib.hid hqS
            clear hqS
            go_wp2_with (first
              | (at_lookup; refine wpList_lookS keyInt Try.underlying77 rfl _ _ rfl w.heap.size S (q : Int) rfl rfl HS2.out ?_; first | rw [decide_eq_true HQ.out] | rw [decide_eq_false HQ.out]))
          · go_roundg (reg - (q + 1))
            case measure => omega
            case rel => exact ⟨q + 1, by omega, by go_num, HB2.out.alloc HB2.out.size _, HS2.out.ext (below_a1 _ _), fun q' h => by
              by_cases hqq : q' < q
              · exact HRG.out q' hqq
              · obtain rfl : q' = q := by omega
                exact HQ.out⟩
          · go_ret
            exact ⟨q, rfl, ⟨fun h => HQ.out ((HSS.out _).2 h), by omega, fun q' h1 h2 => ⟨by
              by_cases hqq : q' < q
              · exact absurd ((HSS.out _).1 (HRG.out q' hqq)) h2
              · omega, by omega⟩, fun h => by omega⟩, by omega, HB2.out.alloc HB2.out.size _⟩
        · have hrf : ∀ q' : Nat, q' < reg → (q' : Int) ∈ S := fun q' h => HRG.out q' (by omega)
          have HRF := Lib.hid hrf
          clear hrf
          go_wp2
          go_loopg [15] (B + 1) (fun gh i wr => ∃ j : Nat, gh + j = B + 1 ∧ i = I (-1 - (j : Int)) ∧ Below w.heap.size w wr ∧ SetAt wr w.heap.size (S.map I) ∧ ∀ j' : Nat, 1 ≤ j' → j' ≤ j → (-(j' : Int)) ∈ S)
          case atStart => exact ⟨0, rfl, rfl, HB2.out, HS2.out, fun j' h1 h2 => by omega⟩
          case round =>
            obtain ⟨j, hj, rfl, hb3, hs3, hin⟩ := hrel
            obtain ⟨wy, rfl⟩ : ∃ wy, wy = wr := ⟨_, rfl⟩
            have HB3 := Lib.hid hb3
            have HS3 := Lib.hid hs3
            clear hb3 hs3
            have hjB : j ≤ B := by
              by_cases h : j = 0
              · omega
              · have := HMS.out _ (hin j (by omega) (Nat.le_refl _)); omega
            have HIN := Lib.hid hin
            clear hin
            by_cases hqS : (-1 - (j : Int)) ∈ S
            all_goals
              have HQ := Lib.hid hqS
              clear hqS
              go_wp2_with (first
                | (at_lookup; refine wpList_lookS keyInt Try.underlying77 rfl _ _ rfl w.heap.size S (-1 - (j : Int)) rfl rfl HS3.out ?_; first | rw [decide_eq_true HQ.out] | rw [decide_eq_false HQ.out]))
            · have hjB' : j + 1 ≤ B := by have := HMS.out _ HQ.out; omega
              go_roundg (B + 1 - (j + 1))
              case measure => omega
              case rel =>
                refine ⟨j + 1, by omega, by go_num, HB3.out.alloc HB3.out.size _, HS3.out.ext (below_a1 _ _), fun j' h1 h2 => ?_⟩
                by_cases hjj : j' ≤ j
                · exact HIN.out j' h1 hjj
                · obtain rfl : j' = j + 1 := by omega
                  have := HQ.out
                  rwa [show -1 - (j : Int) = -((j + 1 : Nat) : Int) by omega] at this
            · go_ret
              refine ⟨-1 - (j : Int), rfl, ⟨fun h => HQ.out ((HSS.out _).2 h), by omega, fun q' h1 h2 => absurd ((HSS.out _).1 (HRF.out q' h1)) h2, fun h q h1 h2 => ?_⟩, by omega, HB3.out.alloc HB3.out.size _⟩
              have := HIN.out (-q).toNat (by omega) (by omega)
              rw [show -(((-q).toNat : Nat) : Int) = q by omega] at this
              exact (HSS.out _).1 this

end Go.Proofs.Ytdlcpmjhngfgkaa
