import Derived.Test.YtjgbkdbkachciaaGreatDoorT2
namespace Go.Proofs.YtjgbkdbkachciaaGreatDoor
open Go.RowKit Go.Shelf
attribute [local go_sem] Oper.semAt_some

/-- statements up to a brace -/
def stsF (k : Nat) : Nat → List Tok → Option (List LS × List Tok)
  | 0, _ => none
  | _ + 1, [] => none
  | g + 1, t :: r => if tokIs t [125] then some ([], r) else match stF k (t :: r) with
    | none => none
    | some (s, us) => (stsF k g us).map fun p => (s :: p.1, p.2)
/-- what of the statements is there already -/
def StsI (wr : World) (base : Nat) (v : Value) (done : List SA) : Prop := OwnS 5 54 sEnc wr base v done ∧ ∀ p ∈ done, EX (fun b => base ≤ b ∧ b < wr.heap.size ∧ v.ownBlock ≠ some b) wr p.av (.mk 0 0 0 [] p.s.args) ∧ p.s.thn = [] ∧ p.s.els = []
theorem StsI.grown {w w' : World} {base : Nat} {v : Value} {done : List SA} {row : Option Nat} (h : StsI w base v done) (hg : w.grownBy w' row) (hr : ∀ r, row = some r → r < base) : StsI w' base v done := by
  have hsz := hg.size
  refine ⟨ownsRow_kept' h.1 hg ?_, fun p hp => ?_⟩
  · cases hv : v.ownBlock with
    | none => exact .inl rfl
    | some k =>
      right
      intro e
      have := hr k e.symm
      have := (ownsRow_base h.1 k hv).1
      omega
  · obtain ⟨h1, h2⟩ := h.2 p hp
    exact ⟨(h1.grown hg (fun r e hb => by have := hr r e; omega)).weak fun b hb => ⟨hb.1, by omega, hb.2.2⟩, h2⟩
theorem PG.own {a b c : World} {pb tb : Nat} {ts : List Tok} {row : Option Nat} (h : PG a pb tb ts b) (hg : b.grownBy c row) (hr : ∀ r, row = some r → a.heap.size ≤ r) (ht : tb < a.heap.size) (hp : pb < a.heap.size) : PG a pb tb ts c := by
  cases row with
  | none => exact h.new (row := a.heap.size) (Nat.le_refl _) ⟨hg.os, hg.tape, hg.output, hg.size, fun i hi _ => hg.block i hi (by simp)⟩ ht hp
  | some r => exact h.new (hr r rfl) hg ht hp
set_option maxRecDepth 100000 in
set_option maxHeartbeats 4000000 in
theorem stmts_yes (k pb tb fuel : Nat) (ts us : List Tok) (l : List LS) (w : World) (h : PS w pb tb ts) (he : Ended ts) (hf : fuel ≤ 100000) (hx : stsF k fuel ts = some (l, us)) :
    Calls Tryz.prog 115 #[.pointer (some ⟨pb, 0, none⟩)] w fun e w' => (∃ v, e = .returned v ∧ SX (w.heap.size ≤ ·) w' v l) ∧ PG w pb tb us w' ∧ Ended us := by
  obtain ⟨t0, r0, rfl⟩ := he.cons
  have hpl := h.lt
  have htl := h.tlt
  have HP0 := Lib.hid (PG.start h (Below.refl _ w))
  have HX := Lib.hid hx
  have HE := Lib.hid he
  clear h hx he
  go_enter Tryz.func115, Tryz.ntmps115
  go_wp2
  go_loopg [2] fuel (fun gh v2 wr => ∃ (done : List SA) (ts' : List Tok) (l' : List LS), gh + done.length ≤ 100000 ∧ Hid (PG w pb tb ts' wr ∧ Ended ts' ∧ StsI wr w.heap.size v2 done ∧ stsF k gh ts' = some (l', us) ∧ l = done.map SA.s ++ l'))
  case atStart => exact ⟨[], t0 :: r0, l, by simpa using hf, Lib.hid ⟨HP0.out, HE.out, ⟨OwnS.nil, fun p hp => by cases hp⟩, HX.out, rfl⟩⟩
  case round =>
    obtain ⟨done, ts', l', hdl, HH⟩ := hrel
    obtain ⟨wo, rfl⟩ : ∃ wo, wo = wr := ⟨_, rfl⟩
    obtain ⟨hp, hen, hsi, hst, hl⟩ := HH.out
    obtain ⟨t, r, rfl⟩ := hen.cons
    obtain ⟨g1, rfl⟩ : ∃ g1, gk = g1 + 1 := by
      cases gk with
      | zero => rw [stsF] at hst; cases hst
      | succ g => exact ⟨g, rfl⟩
    rw [stsF] at hst
    have HP := Lib.hid hp
    have HSI := Lib.hid hsi
    have HL := Lib.hid hl
    have hz0 := hp.1.size
    cases htk : tokIs t [125]
    · rw [htk] at hst
      simp only [Bool.false_eq_true, if_false] at hst
      cases hs : stF k (t :: r) with
      | none => rw [hs] at hst; cases hst
      | some p =>
        obtain ⟨s, us1⟩ := p
        rw [hs] at hst
        simp only [] at hst
        obtain ⟨⟨l2, us2⟩, hst2, hx2⟩ := Option.map_eq_some_iff.1 hst
        clear hst
        simp only [Prod.mk.injEq] at hx2
        obtain ⟨rfl, rfl⟩ := hx2
        have HTK := Lib.hid (take_no pb tb t r [125] wo hp.2 htk)
        have HST := Lib.hid (fun W (hh : PS W pb tb (t :: r)) => stmt_yes k pb tb (t :: r) us1 s W hh hen hs)
        have HS2 := Lib.hid hst2
        have hdn : done.length ≤ 1000000000 := by omega
        have hms : g1 < g1 + 1 := by omega
        have hdl2 : g1 + (done.length + 1) ≤ 100000 := by omega
        clear hp hen hsi hst2 hl htk hs HH hdl
        go_upto_region 2 with (first
          | (go_at_call 74; refine HTK.out.mono ?_; rintro e' w1 ⟨rfl, hb1⟩; have HP1 := Lib.hid (HP.out.below hb1); have HS1 := Lib.hid (HSI.out.grown (below_grown hb1 none) (fun r e => by cases e)); clear hb1))
        have hz1 := HP1.out.1.size
        go_wp2_with (first
          | (go_at_call 176; refine (HST.out w1 HP1.out.2).mono ?_; rintro e' w2 ⟨⟨av, rfl, ha, hp2, hth, hel⟩, hen⟩; have hz2 := hp2.1.size; obtain ⟨aa, ac, rfl⟩ := ha.slice; have HA := Lib.hid ha; have HSX := Lib.hid (HS1.out.grown hp2.1 (fun r e => by cases e; exact hpl)); have HP2 := Lib.hid (HP1.out.trans hp2); have HEN := Lib.hid hen; have HTE := Lib.hid (And.intro hth hel); clear hp2 hen ha hth hel)
          | (at_builtin; refine wpList_appS slStmt rfl (.tmp 6) (.tmp 9) rfl sEnc_len sEnc_one w.heap.size _ done rfl (HSX.out.1.tag (alloc_grown _ _ none) (NoTag.none _ _)) w2.heap.size ⟨s, aa, ac⟩ rfl (fun j hj => (cell_of_block (heap_new _ _) j).trans (by simp [sEnc, SA.av, LE.args])) hdn (by omega) (by simp; omega) ?_; intro g2 cap2 w3 ho3 hg3 hat3 hlt3; have HO3 := Lib.hid ho3; have HG3 := Lib.hid hg3; have HAT3 := Lib.hid hat3; clear ho3 hg3 hat3))
        go_roundg g1
        case measure => exact hms
        case rel =>
          refine ⟨done ++ [⟨s, aa, ac⟩], us1, l2, by simpa using hdl2, Lib.hid ⟨?_, HEN.out, ⟨HO3.out, fun p hp => ?_⟩, HS2.out, by rw [HL.out]; simp⟩⟩
          · exact (HP2.out.below (below_a1 _ _)).own HG3.out (fun r e => (ownsRow_base HSX.out.1 r e).1) htl hpl
          · have hz2a : (w2.alloc (.cells #[I s.kind, S s.name, .slice aa (LE.mk 0 0 0 [] s.args).args.length ac, .slice none 0 0, .slice none 0 0] 54)).heap.size = w2.heap.size + 1 := by simp
            have hz3 := HG3.out.size
            have hnb : ∀ b, w.heap.size ≤ b → b < w2.heap.size → u2.ownBlock ≠ some b → w.heap.size ≤ b ∧ b < w3.heap.size ∧ (Value.slice (some ⟨g2, 0, none⟩) (done.length + 1) cap2).ownBlock ≠ some b := by
              intro b h1 h2 h3
              refine ⟨h1, by omega, fun e => ?_⟩
              simp only [Value.ownBlock, Option.some.injEq] at e
              subst e
              rcases HAT3.out with h4 | h4
              · exact h3 h4
              · omega
            rcases List.mem_append.1 hp with hp | hp
            · obtain ⟨h1, h2⟩ := HSX.out.2 p hp
              exact ⟨(h1.alloc.grown HG3.out (fun r e hb => hb.2.2 e)).weak fun b hb => hnb b hb.1 hb.2.1 hb.2.2, h2⟩
            · obtain rfl := List.mem_singleton.1 hp
              have h1 : EX (w1.heap.size ≤ ·) w2 (.slice aa (LE.mk 0 0 0 [] s.args).args.length ac) (.mk 0 0 0 [] s.args) := HA.out
              have h5 : ∀ r, u2.ownBlock = some r → r < w1.heap.size := fun r e => (ownsRow_base HS1.out.1 r e).2
              exact ⟨((h1.size.alloc).grown HG3.out (fun r e hb => by have := h5 r e; omega)).weak fun b hb => hnb b (by omega) hb.2 (fun e => by have := h5 b e; omega), HTE.out⟩
    · rw [htk] at hst
      simp only [if_true] at hst
      simp only [Option.some.injEq, Prod.mk.injEq] at hst
      obtain ⟨rfl, rfl⟩ := hst
      obtain ⟨hrne, hre⟩ := hen.tail (tokIs_kind htk)
      have HTK := Lib.hid (take_yes pb tb t r [125] wo hp.2 htk hrne)
      have HRE := Lib.hid hre
      have hdn : done.length ≤ 1000000000 := by omega
      clear hp hen hsi hl htk HH hrne hre
      go_wp2_with (first
        | (go_at_call 74; refine HTK.out.mono ?_; rintro e' w1 ⟨rfl, hp1⟩; have HP1 := Lib.hid (HP.out.trans hp1); have HS1 := Lib.hid (HSI.out.grown hp1.1 (fun r e => by cases e; exact hpl)); clear hp1))
      go_ret
      exact ⟨⟨_, rfl, by rw [HL.out, List.append_nil]; exact HS1.out.1.stmts hdn (fun p hp => ⟨(HS1.out.2 p hp).1.weak fun b hb => hb.1, (HS1.out.2 p hp).2⟩)⟩, HP1.out, HRE.out⟩
end Go.Proofs.YtjgbkdbkachciaaGreatDoor
