import Derived.Test.YtjgbkdbkachciaaGreatDoorR8
namespace Go.Proofs.YtjgbkdbkachciaaGreatDoor
open Go.RowKit Go.Shelf
attribute [local go_sem] Oper.semAt_some

theorem row_f0 (s l a b : Value) (w : World) : (Instr.field 160 (.agg #[s, l, a, b]) 0).run Tryz.prog w = .ok s w := by kernel_rfl
theorem row_f1 (s l a b : Value) (w : World) : (Instr.field 160 (.agg #[s, l, a, b]) 1).run Tryz.prog w = .ok l w := by kernel_rfl
set_option maxRecDepth 100000 in
theorem sign_any (op : Int) (w : World) : Calls Tryz.prog 267 #[I op] w fun e w' => (∃ b : Bool, e = .returned (.tuple #[S (signS op), .bool b])) ∧ Below w.heap.size w w' := by
  have hfd := row_f0
  go_enter Tryz.func267, Tryz.ntmps267
  go_wp2_with (first
    | (go_at_call 105; refine (rowOf_any op w).mono ?_; rintro e w1 ⟨rfl, hb1⟩; rw [show rowV op = .agg #[S (signS op), I (levelI op), fnV (twoN op), fnV (oneN op)] from rfl]; have HB1 := Lib.hid hb1; clear hb1))
  all_goals
    go_ret2
    exact ⟨⟨_, rfl⟩, HB1.out⟩
set_option maxRecDepth 100000 in
theorem level_any (op : Int) (w : World) : Calls Tryz.prog 144 #[I op] w fun e w' => e = .returned (I (levelI op)) ∧ Below w.heap.size w w' := by
  have hfd := row_f1
  go_enter Tryz.func144, Tryz.ntmps144
  go_wp2_with (first
    | (go_at_call 105; refine (rowOf_any op w).mono ?_; rintro e w1 ⟨rfl, hb1⟩; rw [show rowV op = .agg #[S (signS op), I (levelI op), fnV (twoN op), fnV (oneN op)] from rfl]; have HB1 := Lib.hid hb1; clear hb1))
  go_ret
  exact ⟨rfl, HB1.out⟩

/-- so many words ahead -/
def wantF : List Str → List Tok → Option (List Tok)
  | [], ts => some ts
  | _ :: _, [] => none
  | x :: xs, t :: r => if tokIs t x then wantF xs r else none
theorem wantF_ne {xs : List Str} {ts us : List Tok} (h : wantF xs ts = some us) (hu : us ≠ []) : ts ≠ [] := by
  rintro rfl
  cases xs with
  | nil => cases h; exact hu rfl
  | cons x xs => cases h

theorem hs_kept {w w' : World} {sb pb : Nat} {t : TypeId} {cs : List Value} (h : Row w sb t cs) (hg : w.grownBy w' (some pb)) (hne : sb ≠ pb) : Row w' sb t cs := h.kept hg (by simpa using hne)

set_option maxRecDepth 100000 in
set_option maxHeartbeats 2000000 in
theorem want_yes (pb tb sb n c : Nat) (xs : List Str) (ts us : List Tok) (w : World) (h : PS w pb tb ts) (hs : Row w sb 9 (xs.map S)) (hn : n = xs.length) (hw : wantF xs ts = some us) (hu : us ≠ []) (hl : xs.length ≤ 1000) :
    Calls Tryz.prog 72 #[.pointer (some ⟨pb, 0, none⟩), .slice (some ⟨sb, 0, none⟩) n c] w fun e w' => (∃ v, e = .returned v) ∧ PG w pb tb us w' := by
  have hne : sb ≠ pb := fun e => by
    obtain ⟨o, c, h1, h2, h3, h4⟩ := h
    have h5 : w.heap[pb]? = some (.cells (xs.map S).toArray 9 (0, 0)) := by rw [← e]; exact hs
    have h6 := h2.symm.trans h5
    simp at h6
  have HP := Lib.hid h
  have HS := Lib.hid hs
  have HW := Lib.hid hw
  subst hn
  clear h hs hw
  go_enter Tryz.func72, Tryz.ntmps72
  go_wp2
  go_loopg [8] xs.length (fun gh v wr => ∃ (i : Nat) (rest : List Tok), gh + i = xs.length ∧ v = I i ∧ PG w pb tb rest wr ∧ Hid (wantF (xs.drop i) rest = some us))
  case atStart => exact ⟨0, ts, rfl, rfl, PG.start HP.out (Below.refl _ _), Lib.hid (by simpa using HW.out)⟩
  case round =>
    obtain ⟨i, rest, hg, rfl, hpg, HX⟩ := hrel
    obtain ⟨wo, rfl⟩ : ∃ wo, wo = wr := ⟨_, rfl⟩
    have HG := Lib.hid hpg
    have hso := hs_kept HS.out hpg.1 hne
    clear hpg
    by_cases hlt : i < xs.length
    · have hltz : (i : Int) < (xs.length : Int) := by omega
      obtain ⟨x, hx⟩ : ∃ x, x = xs[i] := ⟨_, rfl⟩
      have hd : xs.drop i = x :: xs.drop (i + 1) := by rw [hx]; exact List.drop_eq_getElem_cons hlt
      have hc := hso.cell i
      rw [List.getElem?_map, List.getElem?_eq_getElem hlt, ← hx] at hc
      simp only [Option.map_some] at hc
      have hX := HX.out
      rw [hd] at hX
      cases rest with
      | nil => cases hX
      | cons t r =>
        rw [wantF] at hX
        split at hX
        · next htk =>
          have hrne := wantF_ne hX hu
          have HTK := Lib.hid (take_yes pb tb t r x wo HG.out.2 htk hrne)
          have HNX := Lib.hid hX
          clear hX hd hx HX htk hso
          go_wp2_with (first
            | (go_at_call 74; refine HTK.out.mono ?_; rintro e w1 ⟨rfl, hp1⟩; have HP1 := Lib.hid hp1; clear hp1))
          go_roundg (xs.length - (i + 1))
          case measure => omega
          case rel => exact ⟨i + 1, r, by omega, by go_num, HG.out.trans HP1.out, HNX⟩
        · cases hX
    · have hX := HX.out
      rw [List.drop_of_length_le (by omega)] at hX
      have hru : rest = us := by cases hX; rfl
      have HRU := Lib.hid hru
      clear hX hru hso HX
      go_wp2
      go_end0
      exact ⟨⟨_, rfl⟩, by rw [← HRU.out]; exact HG.out⟩
end Go.Proofs.YtjgbkdbkachciaaGreatDoor
