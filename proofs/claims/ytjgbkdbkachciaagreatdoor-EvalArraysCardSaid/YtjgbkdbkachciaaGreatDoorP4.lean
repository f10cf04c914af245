import Derived.Test.YtjgbkdbkachciaaGreatDoorP1
namespace Go.Proofs.YtjgbkdbkachciaaGreatDoor
open Go.RowKit Go.Shelf
attribute [local go_sem] Oper.semAt_some

/-! ### a call's parts -/
def OT.ag : OT := .one 0 6 (.two 7 8 (.one 1 8 .nil) (.one 1 7 .nil))
def OC.ag : OC := .look 0 (.look 1 (.pure 3 (.two 2 4 (.one 4 (.cut OT.ag)) (.one 2 (.cut OT.ag)))))
/-- what of them is there already -/
structure AgI (W0 : World) (pb tb xb ob base : Nat) (ts : List Tok) (done : List EA) (W : World) : Prop where
  pg : PG W0 pb tb ts W
  en : Ended ts
  x : Row W xb 89 [.pointer (some ⟨pb, 0, none⟩)]
  o : ∃ v, Row W ob 29 [v] ∧ EsI W base v done
theorem AgI.below {W0 W W' : World} {pb tb xb ob base : Nat} {ts : List Tok} {done : List EA} (h : AgI W0 pb tb xb ob base ts done W) (hb : Below W.heap.size W W') : AgI W0 pb tb xb ob base ts done W' := by
  obtain ⟨v, h1, h2⟩ := h.o
  exact ⟨h.pg.below hb, h.en, h.x.ext hb, v, h1.ext hb, h2.grown (below_grown hb none) (fun r e => by cases e)⟩
theorem AgI.take {W0 W W' : World} {pb tb xb ob base : Nat} {ts us : List Tok} {done : List EA} (h : AgI W0 pb tb xb ob base ts done W) (hp : PG W pb tb us W') (he : Ended us) (h1 : pb < base) (h2 : xb ≠ pb) (h3 : ob ≠ pb) : AgI W0 pb tb xb ob base us done W' := by
  obtain ⟨v, k1, k2⟩ := h.o
  exact ⟨h.pg.trans hp, he, hp.row h.x h2, v, hp.row k1 h3, k2.grown hp.1 (fun r e => by cases e; exact h1)⟩
theorem OwnS.thereK {α : Type} {k e : Nat} {enc : α → List Value} {w : World} {base g n cap : Nat} {l : List α} (h : OwnS k e enc w base (.slice (some ⟨g, 0, none⟩) n cap) l) (hk : ∀ x, (enc x).length = k) {i : Nat} (hi : i < l.length) : w.there g (i * k) k := fun j hj => by
  obtain ⟨g2, c2, hv2, _, hcl⟩ := h.cell hk hi
  obtain rfl : g2 = g := by simp at hv2; exact hv2.1.symm
  have h1 := hcl j hj
  refine ⟨?_, h1.2⟩
  rw [h1.1, List.getElem?_eq_getElem (by rw [hk]; exact hj)]
  rfl
abbrev yZ : EA := ⟨.mk 0 0 0 [] [], none, 0⟩
/-- one more is laid -/
theorem AgI.laid {W0 w3 w5 w6 : World} {pb tb xb ob base DN g' cap oc : Nat} {oa : Option Addr} {us : List Tok} {done : List EA} {y : EA} (hDN : DN = done.length) (hpg : PG W0 pb tb us w3) (hen : Ended us) (hx : Row w3 xb 89 [.pointer (some ⟨pb, 0, none⟩)])
    (hes : EsI w3 base (.slice oa DN oc) done) (hy : EX (fun b => base ≤ b ∧ b < w3.heap.size ∧ (Value.slice oa DN oc).ownBlock ≠ some b) w3 y.av y.e) (ho5 : OwnS 5 31 eEnc w5 base (.slice (some ⟨g', 0, none⟩) (DN + 1) cap) (done ++ [yZ]))
    (hg5 : w3.grownBy w5 (Value.slice oa DN oc).ownBlock) (hat : (Value.slice oa DN oc).ownBlock = some g' ∨ g' = w3.heap.size) (hro : Row w6 ob 29 [.slice (some ⟨g', 0, none⟩) (DN + 1) cap])
    (h6 : ∃ wa, (w5.grownBy wa (some ob) ∧ w6 = wa.setCells g' (DN * 5) (eEnc y)) ∨ (wa = w5.setCells g' (DN * 5) (eEnc y) ∧ wa.grownBy w6 (some ob)))
    (hpb : pb < W0.heap.size) (htb : tb < W0.heap.size) (hxb : W0.heap.size ≤ xb) (hob : xb < ob) (hbs : base = ob + 1) : AgI W0 pb tb xb ob base us (done ++ [y]) w6 := by
  have hown : ∀ r, (Value.slice oa DN oc).ownBlock = some r → base ≤ r ∧ r < w3.heap.size := fun r e => ownsRow_base hes.1 r e
  have hgb : base ≤ g' ∧ g' < w5.heap.size := ownsRow_base ho5 g' rfl
  have hz5 := hg5.size
  -- two steps: an old row of another's, and the new row
  have hch : ∃ wa, ((w5.grownBy wa (some ob) ∧ wa.grownBy w6 (some g')) ∨ (w5.grownBy wa (some g') ∧ wa.grownBy w6 (some ob))) := by
    obtain ⟨wa, h6⟩ := h6
    rcases h6 with ⟨h7, h8⟩ | ⟨h7, h8⟩
    · exact ⟨wa, .inl ⟨h7, h8 ▸ setCells_grown _ _ _⟩⟩
    · exact ⟨wa, .inr ⟨h7 ▸ setCells_grown _ _ _, h8⟩⟩
  have hset : OwnS 5 31 eEnc w6 base (.slice (some ⟨g', 0, none⟩) (DN + 1) cap) (done ++ [y]) := by
    have hl : (done ++ [yZ]).length = DN + 1 := by rw [hDN]; simp
    have hss : ∀ {w : World}, OwnS 5 31 eEnc w base (.slice (some ⟨g', 0, none⟩) (DN + 1) cap) (done ++ [yZ]) → OwnS 5 31 eEnc (w.setCells g' (DN * 5) (eEnc y)) base (.slice (some ⟨g', 0, none⟩) (DN + 1) cap) (done ++ [y]) := fun h => by
      rw [← hl] at h
      have := OwnS.set h eEnc_len (by decide) (i := DN) (by rw [hl]; omega) y
      rw [hl, hDN, List.set_append_right _ _ (Nat.le_refl _), Nat.sub_self] at this
      rw [hDN]
      exact this
    obtain ⟨wa, h6⟩ := h6
    rcases h6 with ⟨h7, h8⟩ | ⟨h7, h8⟩
    · rw [h8]
      exact hss (ownsRow_kept' ho5 h7 (.inr fun e => by have : g' = ob := Option.some.inj e; omega))
    · exact ownsRow_kept' (by rw [h7]; exact hss ho5) h8 (.inr fun e => by have : g' = ob := Option.some.inj e; omega)
  have hex : ∀ p : EA, EX (fun b => base ≤ b ∧ b < w3.heap.size ∧ (Value.slice oa DN oc).ownBlock ≠ some b) w3 p.av p.e → EX (fun b => base ≤ b ∧ b < w6.heap.size ∧ (Value.slice (some ⟨g', 0, none⟩) (DN + 1) cap).ownBlock ≠ some b) w6 p.av p.e := fun p hp => by
    have h5 := hp.grown hg5 (fun r e hb => hb.2.2 e)
    have hne : ∀ b, b < w3.heap.size → (Value.slice oa DN oc).ownBlock ≠ some b → b ≠ g' := fun b hb hn e => by
      rcases hat with h | h
      · exact hn (by rw [h, e])
      · omega
    obtain ⟨wa, h | h⟩ := hch
    · have hz := h.1.size
      have hz' := h.2.size
      exact ((h5.grown h.1 (fun r e hb => by cases e; omega)).grown h.2 (fun r e hb => by cases e; exact hne _ hb.2.1 hb.2.2 rfl)).weak fun b hb => ⟨hb.1, by omega, fun e => hne b hb.2.1 hb.2.2 (Option.some.inj e).symm⟩
    · have hz := h.1.size
      have hz' := h.2.size
      exact ((h5.grown h.1 (fun r e hb => by cases e; exact hne _ hb.2.1 hb.2.2 rfl)).grown h.2 (fun r e hb => by cases e; omega)).weak fun b hb => ⟨hb.1, by omega, fun e => hne b hb.2.1 hb.2.2 (Option.some.inj e).symm⟩
  have hzb := hpg.1.size
  have h5 := hpg.own hg5 (fun r e => by have := hown r e; omega) htb hpb
  have hx5 : Row w5 xb 89 [.pointer (some ⟨pb, 0, none⟩)] := hx.kept hg5 (fun e => by have := hown _ e.symm; omega)
  obtain ⟨wa, hc⟩ := hch
  refine ⟨?_, hen, ?_, _, hro, hset, fun p hp => ?_⟩
  · rcases hc with h | h
    · exact (h5.own h.1 (fun r e => by cases e; omega) htb hpb).own h.2 (fun r e => by cases e; omega) htb hpb
    · exact (h5.own h.1 (fun r e => by cases e; omega) htb hpb).own h.2 (fun r e => by cases e; omega) htb hpb
  · rcases hc with h | h
    · exact (hx5.kept h.1 (fun e => by cases e; omega)).kept h.2 (fun e => by cases e; omega)
    · exact (hx5.kept h.1 (fun e => by cases e; omega)).kept h.2 (fun e => by cases e; omega)
  · rcases List.mem_append.1 hp with hp | hp
    · exact hex p (hes.2 p hp)
    · obtain rfl := List.mem_singleton.1 hp
      exact hex _ hy
set_option maxRecDepth 100000 in
set_option maxHeartbeats 4000000 in
/-- one more -/
theorem arg1_yes {k : Nat} (ih : EOk k) (pb tb xb ob base : Nat) (ts us : List Tok) (e : LE) (done : List EA) (W0 W : World) (h : AgI W0 pb tb xb ob base ts done W) (hx : cF k 1 ts = some (e, us)) (hd : done.length ≤ 1000)
    (hpb : pb < W0.heap.size) (htb : tb < W0.heap.size) (hxb : W0.heap.size ≤ xb) (hob : xb < ob) (hbs : base = ob + 1) :
    Calls Tryz.prog 246 #[.pointer (some ⟨ob, 0, none⟩), .pointer (some ⟨xb, 0, none⟩)] W fun en w' => (∃ u, en = .returned u) ∧ ∃ y : EA, y.e = e ∧ AgI W0 pb tb xb ob base us (done ++ [y]) w' := by
  obtain ⟨v, hro, hes⟩ := h.o
  obtain ⟨oa, oc, rfl⟩ := hes.1.slice
  obtain ⟨DN, hDN⟩ : ∃ n, n = done.length := ⟨_, rfl⟩
  rw [← hDN] at hro hes hd
  have HDN := Lib.hid hDN
  have HRO := Lib.hid hro
  have HRX := Lib.hid h.x
  have HES := Lib.hid hes
  have HPG := Lib.hid h.pg
  have HEX := Lib.hid (fun W (hh : PS W pb tb ts) => expr_of ih pb tb ts us e W hh h.en hx)
  have hsz := h.pg.1.size
  have hlo := hro.lt
  have hpo : pb ≠ ob := by omega
  have hpx : pb ≠ xb := by omega
  have HBS := Lib.hid hbs
  have hpbs : pb < base := by omega
  have hbsW : base ≤ W.heap.size := by omega
  clear h hro hes hx hDN hbs
  go_enter Tryz.func246, Tryz.ntmps246
  refine wp_region_ordC (by kernel_rfl) (fun X => X.cell? ⟨ob, 0, none⟩ = some (.slice oa DN oc) ∧ X.cell? ⟨xb, 0, none⟩ = some (.pointer (some ⟨pb, 0, none⟩))) 5 OC.ag (by kernel_rfl) ?hS ?_
  case hS => intro wd hh; exact ⟨row_at HRO.out hh 0, row_at HRX.out hh 0⟩
  intro wd hh hgd hS
  have HPD := Lib.hid (HPG.out.own hgd (fun r e => by cases e) htb hpb)
  have HOD := Lib.hid (HRO.out.kept hgd (by simp))
  have HXD := Lib.hid (HRX.out.kept hgd (by simp))
  have HED := Lib.hid (HES.out.grown hgd (fun r e => by cases e))
  have hzd := hgd.size
  clear hh hgd
  repeat (refine wpOrdC_look (v := ?_) rfl (by rfl) ?_ (by assumption) (fun _ _ _ h => h) ?_; rotate_left; (· (intro wS hSw; (try dsimp only at hSw); go_simp; (first | done | with_reducible rfl))); simp only [Act.put, List.setIfInBounds_toArray, List.set_cons_zero, List.set_cons_succ])
  refine wpOrdC_pure (v := ?_) rfl (by rfl) ?_ (by assumption) (fun _ _ _ h => h) ?_; rotate_left; (· (intro wS; go_simp; (first | done | with_reducible rfl))); simp only [Act.put, List.setIfInBounds_toArray, List.set_cons_zero, List.set_cons_succ]
  refine wpOrdC_two rfl rfl ?_ ?_
  · go_wp2_with (first
      | (go_at_call 226; refine (HEX.out wd HPD.out.2).mono ?_; rintro en w2 ⟨⟨av, rfl, ha, hp2⟩, hen⟩; obtain ⟨xa, xc, rfl⟩ := ha.slice; have HA2 := Lib.hid (show EX (wd.heap.size ≤ ·) w2 (.slice xa e.args.length xc) e from ha); have HP2 := Lib.hid hp2; have HEN := Lib.hid hen; clear ha hp2 hen))
    have HO2 := Lib.hid (HP2.out.row HOD.out (Ne.symm hpo))
    have HX2 := Lib.hid (HP2.out.row HXD.out (Ne.symm hpx))
    clear hS
    refine QNC_keep ⟨HO2.out.cell 0, HX2.out.cell 0⟩ fun hS => ?_
    refine wpOrdC_one rfl ?_
    clear hS
    go_wp2
    obtain ⟨w3, hw3⟩ : ∃ w, w = w2.alloc (.cells #[.int .i64 0, .int .i64 0, .int .i64 0, .string ⟨#[]⟩, .slice none 0 0] 31) := ⟨_, rfl⟩
    obtain ⟨gz, hgz⟩ : ∃ g, g = w2.heap.size := ⟨_, rfl⟩
    have hb3 : Below w2.heap.size w2 w3 := by rw [hw3]; exact below_a1 _ _
    have HGZ := Lib.hid (show Row w3 gz 31 [I 0, I 0, I 0, S [], .slice none 0 0] by rw [hw3, hgz]; exact heap_new _ _)
    have HP3 := Lib.hid ((HPD.out.trans HP2.out).below hb3)
    have HO3 := Lib.hid (HO2.out.ext hb3)
    have HX3 := Lib.hid (HX2.out.ext hb3)
    have HE3 := Lib.hid ((HED.out.grown HP2.out.1 (fun r e => by cases e; exact hpbs)).grown (below_grown hb3 none) (fun r e => by cases e))
    have hown := fun r e => (ownsRow_base HES.out.1 r e).2
    have HY3 := Lib.hid (show EX (fun b => base ≤ b ∧ b < w3.heap.size ∧ (Value.slice oa DN oc).ownBlock ≠ some b) w3 (.slice xa e.args.length xc) e from (EX.size (HA2.out.grown (below_grown hb3 none) (fun r e => by cases e))).weak fun b hb => ⟨by omega, hb.2, fun e => by have := hown b e; omega⟩)
    change QN _ _ _ _ (w2.alloc (.cells #[.int .i64 0, .int .i64 0, .int .i64 0, .string ⟨#[]⟩, .slice none 0 0] 31))
    rw [← hw3, ← hgz]
    clear hw3 hgz hb3 hown
    refine QNC_keep ⟨HO3.out.cell 0, HX3.out.cell 0⟩ fun hS => ?_
    clear hS
    have hz3 : base ≤ w3.heap.size := by have := HO3.out.lt; have := HBS.out; omega
    refine wpOrdC_cut rfl ?_
    go_wp2_with (first
      | (at_builtin; refine wpList_appS slExpr rfl _ _ rfl eEnc_len eEnc_one base (.slice oa DN oc) done rfl HE3.out.1 gz yZ rfl (fun j _ => HGZ.out.cell j) (by have := HDN.out; omega) (by decide) hz3 ?_; intro g' cap w5 ho5 hg5 hat5 hlt5; rw [← HDN.out] at ho5 ⊢; have HO5 := Lib.hid ho5; have HG5 := Lib.hid hg5; have HAT := Lib.hid hat5; clear ho5 hg5 hat5 hlt5))
    refine QN_normal ?_
    have htr : True := trivial
    have hcn : ¬ ((DN : Int) + 1 ≤ DN) := by omega
    refine wpOrdT_look (v := .pointer (some ⟨g', DN * 5, none⟩)) rfl (by rfl) ?_ (by assumption) (fun _ _ _ h => h) ?_
    · intro wS _
      go_simp
    simp only [Act.put, List.setIfInBounds_toArray, List.set_cons_zero, List.set_cons_succ]
    have hown5 : ∀ r, (Value.slice oa DN oc).ownBlock = some r → base ≤ r := fun r e => (ownsRow_base HE3.out.1 r e).1
    have HO5r := Lib.hid (HO3.out.kept HG5.out (fun e => by have := hown5 _ e.symm; have := HBS.out; omega))
    have hgb5 := (ownsRow_base HO5.out g' rfl).1
    have HTH := Lib.hid (HO5.out.thereK eEnc_len (i := DN) (by rw [HDN.out]; simp))
    refine wpOrdT_two rfl rfl ?_ ?_
    · refine store_first 31 (.tmp 8) (.tmp 4) rfl ?_
      refine wpList_store_mid rfl 31 (.tmp 8) (.tmp 4) rfl g' (DN * 5) _ rfl rfl HTH.out (by kernel_rfl) (by simp [Value.oneCell']) ?_
      go_wp2
      refine QN_normal ?_
      refine wpOrdT_turn rfl ?_
      obtain ⟨wa, hwa⟩ : ∃ w, w = w5.setCells g' (DN * 5) (eEnc ⟨e, xa, xc⟩) := ⟨_, rfl⟩
      have HRa := Lib.hid (show Row wa ob 29 [.slice oa DN oc] by rw [hwa]; exact HO5r.out.kept (setCells_grown _ _ _) (fun e => by cases e; have := HBS.out; omega))
      have f0 := HRa.out.frozen 0
      have d0 := HRa.out.cell 0
      simp only [List.getElem?_cons_zero] at d0
      change wpList _ _ _ _ _ (w5.setCells g' (DN * 5) (eEnc ⟨e, xa, xc⟩))
      rw [← hwa]
      have HWA := Lib.hid hwa
      clear hwa
      go_wp2
      refine QN_normal ?_
      refine ⟨trivial, wpOrdT_nil ?_⟩
      have hfin := AgI.laid (w6 := wa.setCell ⟨ob, 0, none⟩ (.slice (some ⟨g', 0, none⟩) (DN + 1) cap)) (y := ⟨e, xa, xc⟩) HDN.out HP3.out HEN.out HX3.out HE3.out HY3.out HO5.out HG5.out HAT.out (HRa.out.set 0 _) ⟨wa, .inr ⟨HWA.out, setCell_grown _ _ _ _⟩⟩ hpb htb hxb hob HBS.out
      go_end0
      exact ⟨⟨_, rfl⟩, ⟨e, xa, xc⟩, rfl, hfin⟩
    · have f0 := HO5r.out.frozen 0
      have d0 := HO5r.out.cell 0
      simp only [List.getElem?_cons_zero] at d0
      go_wp2
      refine QN_normal ?_
      refine wpOrdT_turn rfl ?_
      obtain ⟨wa, hwa⟩ : ∃ w, w = w5.setCell ⟨ob, 0, none⟩ (.slice (some ⟨g', 0, none⟩) (DN + 1) cap) := ⟨_, rfl⟩
      have HTa := Lib.hid (show wa.there g' (DN * 5) 5 from fun j hj => by
        have hne : g' ≠ ob := by have := HBS.out; omega
        obtain ⟨h1, h2⟩ := HTH.out j hj
        have hg := setCell_grown w5 ob 0 (.slice (some ⟨g', 0, none⟩) (DN + 1) cap)
        have hb := hg.block g' (ownsRow_base HO5.out g' rfl).2 (fun e => hne (Option.some.inj e))
        rw [← hwa] at hb
        constructor
        · rw [show wa.cell? ⟨g', DN * 5 + j, none⟩ = w5.cell? ⟨g', DN * 5 + j, none⟩ by simp only [World.cell?, hb]]; exact h1
        · rw [show wa.frozen? ⟨g', DN * 5 + j, none⟩ = w5.frozen? ⟨g', DN * 5 + j, none⟩ by simp only [World.frozen?, hb]]; exact h2)
      have hra := HO5r.out.set 0 (.slice (some ⟨g', 0, none⟩) (DN + 1) cap)
      have hga := setCell_grown w5 ob 0 (.slice (some ⟨g', 0, none⟩) (DN + 1) cap)
      rw [← hwa] at hra hga
      have HRa := Lib.hid hra
      have HGa := Lib.hid hga
      change wpList _ _ _ _ _ (w5.setCell ⟨ob, 0, none⟩ (.slice (some ⟨g', 0, none⟩) (DN + 1) cap))
      rw [← hwa]
      clear hwa hra hga f0 d0
      refine store_first 31 (.tmp 8) (.tmp 4) rfl ?_
      refine wpList_store_mid rfl 31 (.tmp 8) (.tmp 4) rfl g' (DN * 5) _ rfl rfl HTa.out (by kernel_rfl) (by simp [Value.oneCell']) ?_
      go_wp2
      refine QN_normal ?_
      refine wpOrdT_nil ?_
      have hfin := AgI.laid (w6 := wa.setCells g' (DN * 5) (eEnc ⟨e, xa, xc⟩)) (y := ⟨e, xa, xc⟩) HDN.out HP3.out HEN.out HX3.out HE3.out HY3.out HO5.out HG5.out HAT.out (HRa.out.kept (setCells_grown _ _ _) (fun e => by cases e; have := HBS.out; omega)) ⟨wa, .inl ⟨HGa.out, rfl⟩⟩ hpb htb hxb hob HBS.out
      go_end0
      exact ⟨⟨_, rfl⟩, ⟨e, xa, xc⟩, rfl, hfin⟩
  · go_wp2
    obtain ⟨w2, hw2⟩ : ∃ w, w = wd.alloc (.cells #[.int .i64 0, .int .i64 0, .int .i64 0, .string ⟨#[]⟩, .slice none 0 0] 31) := ⟨_, rfl⟩
    obtain ⟨gz, hgz⟩ : ∃ g, g = wd.heap.size := ⟨_, rfl⟩
    have hb2 : Below wd.heap.size wd w2 := by rw [hw2]; exact below_a1 _ _
    have HGZ2 := Lib.hid (show Row w2 gz 31 [I 0, I 0, I 0, S [], .slice none 0 0] by rw [hw2, hgz]; exact heap_new _ _)
    have HP2 := Lib.hid (HPD.out.below hb2)
    have HO2 := Lib.hid (HOD.out.ext hb2)
    have HX2 := Lib.hid (HXD.out.ext hb2)
    have HE2 := Lib.hid (HED.out.grown (below_grown hb2 none) (fun r e => by cases e))
    have hpz : gz ≠ pb := by omega
    have hz2 := hb2.size
    change QN _ _ _ _ (wd.alloc (.cells #[.int .i64 0, .int .i64 0, .int .i64 0, .string ⟨#[]⟩, .slice none 0 0] 31))
    rw [← hw2, ← hgz]
    clear hw2 hgz hb2 hS
    refine QNC_keep ⟨HO2.out.cell 0, HX2.out.cell 0⟩ fun hS => ?_
    refine wpOrdC_one rfl ?_
    clear hS
    go_wp2_with (first
      | (go_at_call 226; refine (HEX.out w2 HP2.out.2).mono ?_; rintro en w3 ⟨⟨av, rfl, ha, hp3⟩, hen⟩; obtain ⟨xa, xc, rfl⟩ := ha.slice; have HA3 := Lib.hid (show EX (w2.heap.size ≤ ·) w3 (.slice xa e.args.length xc) e from ha); have HPP := Lib.hid hp3; have HEN := Lib.hid hen; clear ha hp3 hen))
    have HO3 := Lib.hid (HPP.out.row HO2.out (Ne.symm hpo))
    have HX3 := Lib.hid (HPP.out.row HX2.out (Ne.symm hpx))
    have HGZ := Lib.hid (HPP.out.row HGZ2.out hpz)
    have HP3 := Lib.hid (HP2.out.trans HPP.out)
    have HE3 := Lib.hid (HE2.out.grown HPP.out.1 (fun r e => by cases e; exact hpbs))
    have hown := fun r e => (ownsRow_base HES.out.1 r e).2
    have HY3 := Lib.hid (show EX (fun b => base ≤ b ∧ b < w3.heap.size ∧ (Value.slice oa DN oc).ownBlock ≠ some b) w3 (.slice xa e.args.length xc) e from (EX.size HA3.out).weak fun b hb => ⟨by omega, hb.2, fun e => by have := hown b e; omega⟩)
    clear hown
    refine QNC_keep ⟨HO3.out.cell 0, HX3.out.cell 0⟩ fun hS => ?_
    clear hS
    have hz3 : base ≤ w3.heap.size := by have := HO3.out.lt; have := HBS.out; omega
    refine wpOrdC_cut rfl ?_
    go_wp2_with (first
      | (at_builtin; refine wpList_appS slExpr rfl _ _ rfl eEnc_len eEnc_one base (.slice oa DN oc) done rfl HE3.out.1 gz yZ rfl (fun j _ => HGZ.out.cell j) (by have := HDN.out; omega) (by decide) hz3 ?_; intro g' cap w5 ho5 hg5 hat5 hlt5; rw [← HDN.out] at ho5 ⊢; have HO5 := Lib.hid ho5; have HG5 := Lib.hid hg5; have HAT := Lib.hid hat5; clear ho5 hg5 hat5 hlt5))
    refine QN_normal ?_
    have htr : True := trivial
    have hcn : ¬ ((DN : Int) + 1 ≤ DN) := by omega
    refine wpOrdT_look (v := .pointer (some ⟨g', DN * 5, none⟩)) rfl (by rfl) ?_ (by assumption) (fun _ _ _ h => h) ?_
    · intro wS _
      go_simp
    simp only [Act.put, List.setIfInBounds_toArray, List.set_cons_zero, List.set_cons_succ]
    have hown5 : ∀ r, (Value.slice oa DN oc).ownBlock = some r → base ≤ r := fun r e => (ownsRow_base HE3.out.1 r e).1
    have HO5r := Lib.hid (HO3.out.kept HG5.out (fun e => by have := hown5 _ e.symm; have := HBS.out; omega))
    have hgb5 := (ownsRow_base HO5.out g' rfl).1
    have HTH := Lib.hid (HO5.out.thereK eEnc_len (i := DN) (by rw [HDN.out]; simp))
    refine wpOrdT_two rfl rfl ?_ ?_
    · refine store_first 31 (.tmp 8) (.tmp 4) rfl ?_
      refine wpList_store_mid rfl 31 (.tmp 8) (.tmp 4) rfl g' (DN * 5) _ rfl rfl HTH.out (by kernel_rfl) (by simp [Value.oneCell']) ?_
      go_wp2
      refine QN_normal ?_
      refine wpOrdT_turn rfl ?_
      obtain ⟨wa, hwa⟩ : ∃ w, w = w5.setCells g' (DN * 5) (eEnc ⟨e, xa, xc⟩) := ⟨_, rfl⟩
      have HRa := Lib.hid (show Row wa ob 29 [.slice oa DN oc] by rw [hwa]; exact HO5r.out.kept (setCells_grown _ _ _) (fun e => by cases e; have := HBS.out; omega))
      have f0 := HRa.out.frozen 0
      have d0 := HRa.out.cell 0
      simp only [List.getElem?_cons_zero] at d0
      change wpList _ _ _ _ _ (w5.setCells g' (DN * 5) (eEnc ⟨e, xa, xc⟩))
      rw [← hwa]
      have HWA := Lib.hid hwa
      clear hwa
      go_wp2
      refine QN_normal ?_
      refine ⟨trivial, wpOrdT_nil ?_⟩
      have hfin := AgI.laid (w6 := wa.setCell ⟨ob, 0, none⟩ (.slice (some ⟨g', 0, none⟩) (DN + 1) cap)) (y := ⟨e, xa, xc⟩) HDN.out HP3.out HEN.out HX3.out HE3.out HY3.out HO5.out HG5.out HAT.out (HRa.out.set 0 _) ⟨wa, .inr ⟨HWA.out, setCell_grown _ _ _ _⟩⟩ hpb htb hxb hob HBS.out
      go_end0
      exact ⟨⟨_, rfl⟩, ⟨e, xa, xc⟩, rfl, hfin⟩
    · have f0 := HO5r.out.frozen 0
      have d0 := HO5r.out.cell 0
      simp only [List.getElem?_cons_zero] at d0
      go_wp2
      refine QN_normal ?_
      refine wpOrdT_turn rfl ?_
      obtain ⟨wa, hwa⟩ : ∃ w, w = w5.setCell ⟨ob, 0, none⟩ (.slice (some ⟨g', 0, none⟩) (DN + 1) cap) := ⟨_, rfl⟩
      have HTa := Lib.hid (show wa.there g' (DN * 5) 5 from fun j hj => by
        have hne : g' ≠ ob := by have := HBS.out; omega
        obtain ⟨h1, h2⟩ := HTH.out j hj
        have hg := setCell_grown w5 ob 0 (.slice (some ⟨g', 0, none⟩) (DN + 1) cap)
        have hb := hg.block g' (ownsRow_base HO5.out g' rfl).2 (fun e => hne (Option.some.inj e))
        rw [← hwa] at hb
        constructor
        · rw [show wa.cell? ⟨g', DN * 5 + j, none⟩ = w5.cell? ⟨g', DN * 5 + j, none⟩ by simp only [World.cell?, hb]]; exact h1
        · rw [show wa.frozen? ⟨g', DN * 5 + j, none⟩ = w5.frozen? ⟨g', DN * 5 + j, none⟩ by simp only [World.frozen?, hb]]; exact h2)
      have hra := HO5r.out.set 0 (.slice (some ⟨g', 0, none⟩) (DN + 1) cap)
      have hga := setCell_grown w5 ob 0 (.slice (some ⟨g', 0, none⟩) (DN + 1) cap)
      rw [← hwa] at hra hga
      have HRa := Lib.hid hra
      have HGa := Lib.hid hga
      change wpList _ _ _ _ _ (w5.setCell ⟨ob, 0, none⟩ (.slice (some ⟨g', 0, none⟩) (DN + 1) cap))
      rw [← hwa]
      clear hwa hra hga f0 d0
      refine store_first 31 (.tmp 8) (.tmp 4) rfl ?_
      refine wpList_store_mid rfl 31 (.tmp 8) (.tmp 4) rfl g' (DN * 5) _ rfl rfl HTa.out (by kernel_rfl) (by simp [Value.oneCell']) ?_
      go_wp2
      refine QN_normal ?_
      refine wpOrdT_nil ?_
      have hfin := AgI.laid (w6 := wa.setCells g' (DN * 5) (eEnc ⟨e, xa, xc⟩)) (y := ⟨e, xa, xc⟩) HDN.out HP3.out HEN.out HX3.out HE3.out HY3.out HO5.out HG5.out HAT.out (HRa.out.kept (setCells_grown _ _ _) (fun e => by cases e; have := HBS.out; omega)) ⟨wa, .inl ⟨HGa.out, rfl⟩⟩ hpb htb hxb hob HBS.out
      go_end0
      exact ⟨⟨_, rfl⟩, ⟨e, xa, xc⟩, rfl, hfin⟩
end Go.Proofs.YtjgbkdbkachciaaGreatDoor

namespace Go.Proofs.YtjgbkdbkachciaaGreatDoor
open Go.RowKit Go.Shelf
attribute [local go_sem] Oper.semAt_some

theorem amF_some {k : Nat} {ts us : List Tok} {l : List LE} (h : amF k ts = some (l, us)) : ∃ j e t r l', k = j + 1 ∧ cF j 1 ts = some (e, t :: r) ∧ l = e :: l' ∧ ((tokIs t [44] = true ∧ amF j r = some (l', us)) ∨ (tokIs t [44] = false ∧ tokIs t [41] = true ∧ l' = [] ∧ us = r)) := by
  cases k with
  | zero => rw [amF] at h; cases h
  | succ j =>
    rw [amF] at h
    cases hc : cF j 1 ts with
    | none => rw [hc] at h; cases h
    | some p =>
      obtain ⟨e, us1⟩ := p
      rw [hc] at h
      cases us1 with
      | nil => cases h
      | cons t r =>
        simp only at h
        cases h44 : tokIs t [44]
        · rw [h44] at h
          simp only [Bool.false_eq_true, if_false] at h
          cases h41 : tokIs t [41]
          · rw [h41] at h; simp at h
          · rw [h41] at h
            simp only [if_true, Option.some.injEq, Prod.mk.injEq] at h
            exact ⟨j, e, t, r, [], rfl, hc, h.1.symm, .inr ⟨h44, h41, rfl, h.2.symm⟩⟩
        · rw [h44] at h
          simp only [if_true] at h
          obtain ⟨⟨l', u⟩, h1, h2⟩ := Option.map_eq_some_iff.1 h
          simp only [Prod.mk.injEq] at h2
          exact ⟨j, e, t, r, l', rfl, hc, h2.1.symm, .inl ⟨h44, by rw [h1, h2.2]⟩⟩
/-- what is still to come, behind an expression -/
def ComF (j : Nat) (t : Tok) (r us : List Tok) (l' : List LE) : Prop := (tokIs t [44] = true ∧ amF j r = some (l', us)) ∨ (tokIs t [44] = false ∧ tokIs t [41] = true ∧ l' = [] ∧ us = r)
set_option maxRecDepth 100000 in
set_option maxHeartbeats 4000000 in
/-- a call's parts, with commas between -/
theorem commas_yes (k : Nat) (ih : ∀ j, j ≤ k → EOk j) (pb tb xb ob base : Nat) (ts us : List Tok) (l : List LE) (W0 W : World) (h : AgI W0 pb tb xb ob base ts [] W) (hx : agF (k + 1) ts = some (l, us)) (hl : l.length ≤ 1000)
    (hpb : pb < W0.heap.size) (htb : tb < W0.heap.size) (hxb : W0.heap.size ≤ xb) (hob : xb < ob) (hbs : base = ob + 1) :
    Calls Tryz.prog 113 #[.pointer (some ⟨pb, 0, none⟩), .func (.func 246) #[] #[.pointer (some ⟨ob, 0, none⟩), .pointer (some ⟨xb, 0, none⟩)]] W fun en w' => (∃ u, en = .returned u) ∧ ∃ done : List EA, done.map EA.e = l ∧ AgI W0 pb tb xb ob base us done w' := by
  have eg : ∀ args w, (callFunc 246 args).run Tryz.prog w = .ok (.enter 246 args) w := enters_of Tryz.func246 (by kernel_rfl) rfl
  obtain ⟨t, r, rfl⟩ : ∃ t r, ts = t :: r := by
    obtain ⟨e, h1, _⟩ := h.en
    cases ts with
    | nil => cases h1
    | cons t r => exact ⟨t, r, rfl⟩
  rw [agF] at hx
  have HA := Lib.hid h
  have hne1 : xb ≠ pb := by omega
  have hne2 : ob ≠ pb := by omega
  have hpbb : pb < base := by omega
  have HBS := Lib.hid hbs
  cases h41 : tokIs t [41]
  · rw [h41] at hx
    simp only [Bool.false_eq_true, if_false] at hx
    obtain ⟨j, e, t1, r1, l', rfl, hc, rfl, hcom⟩ := amF_some hx
    have HNO := Lib.hid (take_no pb tb t r [41] W h.pg.2 h41)
    have HAR := Lib.hid (fun (W' : World) (h' : AgI W0 pb tb xb ob base (t :: r) [] W') => arg1_yes (ih j (by omega)) pb tb xb ob base (t :: r) (t1 :: r1) e [] W0 W' h' hc (by decide) hpb htb hxb hob HBS.out)
    have HIH := Lib.hid ih
    have HCO := Lib.hid (show ComF j t1 r1 us l' from hcom)
    obtain ⟨L, hL⟩ : ∃ L, L = e :: l' := ⟨_, rfl⟩
    have HL0 := Lib.hid hL
    rw [← hL] at hl ⊢
    clear hL
    clear h hx h41 hc hcom ih hbs
    go_enter Tryz.func113, Tryz.ntmps113
    go_upto_region 2 with (first
      | (go_at_call 74; refine HNO.out.mono ?_; rintro en w1 ⟨rfl, hb1⟩; have HA1 := Lib.hid (HA.out.below hb1); clear hb1)
      | (go_at_call 246; refine (HAR.out _ HA1.out).mono ?_; rintro en w2 ⟨⟨u, rfl⟩, y, hy, hag⟩; have HA2 := Lib.hid hag; have HY := Lib.hid hy; clear hag hy))
    go_loopg [] j (fun gh wr => gh ≤ j ∧ Hid (∃ (t : Tok) (r : List Tok) (done : List EA) (l2 : List LE), AgI W0 pb tb xb ob base (t :: r) done wr ∧ ComF gh t r us l2 ∧ L = done.map EA.e ++ l2))
    case atStart => exact ⟨Nat.le_refl _, Lib.hid ⟨t1, r1, [y], l', HA2.out, HCO.out, by rw [HL0.out, List.map_singleton, HY.out]; rfl⟩⟩
    case round =>
      obtain ⟨hgj, HH⟩ := hrel
      obtain ⟨wo, rfl⟩ : ∃ wo, wo = wr := ⟨_, rfl⟩
      obtain ⟨t2, r2, done, l2, hag, hco, hll⟩ := HH.out
      have HAG := Lib.hid hag
      have HLL := Lib.hid hll
      rcases hco with ⟨h44, ham⟩ | ⟨h44, h41, rfl, rfl⟩
      · obtain ⟨j2, e2, t3, r3, l3, rfl, hc2, rfl, hcom2⟩ := amF_some ham
        obtain ⟨hrne, hre⟩ := hag.en.tail (tokIs_kind h44)
        have HTK := Lib.hid (take_yes pb tb t2 r2 [44] wo hag.pg.2 h44 hrne)
        have hdl : done.length ≤ 1000 := by
          have := congrArg List.length hll
          simp only [List.length_append, List.length_map] at this
          omega
        have HAR2 := Lib.hid (fun (W' : World) (h' : AgI W0 pb tb xb ob base r2 done W') => arg1_yes (HIH.out j2 (by omega)) pb tb xb ob base r2 (t3 :: r3) e2 done W0 W' h' hc2 hdl hpb htb hxb hob HBS.out)
        have HC2 := Lib.hid (show ComF j2 t3 r3 us l3 from hcom2)
        have HRE := Lib.hid hre
        have hms : j2 < j2 + 1 := by omega
        have hgj2 : j2 ≤ j := by omega
        clear HH hag hll h44 ham hc2 hcom2 hrne hre HAR HCO HA HA1 HA2 HNO hgj
        go_wp2_with (first
          | (go_at_call 74; refine HTK.out.mono ?_; rintro en w1 ⟨rfl, hp1⟩; have HG1 := Lib.hid (HAG.out.take hp1 HRE.out hpbb hne1 hne2); clear hp1)
          | (go_at_call 246; refine (HAR2.out _ HG1.out).mono ?_; rintro en w2 ⟨⟨u2, rfl⟩, y2, hy2, hag2⟩; have HG2 := Lib.hid hag2; have HY2 := Lib.hid hy2; clear hag2 hy2))
        go_roundg j2
        case measure => exact hms
        case rel => exact ⟨hgj2, Lib.hid ⟨t3, r3, done ++ [y2], l3, HG2.out, HC2.out, by rw [HLL.out, List.map_append, List.map_singleton, HY2.out]; simp⟩⟩
      · obtain ⟨hrne, hre⟩ := hag.en.tail (tokIs_kind h41)
        have HTK := Lib.hid (take_no pb tb t2 us [44] wo hag.pg.2 h44)
        have hwn : wantF [[41]] (t2 :: us) = some us := by rw [wantF, if_pos h41]; rfl
        have HWA := Lib.hid (fun W sb (hh : PS W pb tb (t2 :: us)) (hs : Row W sb 9 ([[41]].map S)) => want_yes pb tb sb 1 1 [[41]] (t2 :: us) us W hh hs rfl hwn hrne (by simp))
        have HRE := Lib.hid hre
        clear HH hag hll h44 h41 hwn hrne hre HAR HCO HA HA1 HA2 HNO
        go_wp2_with (first
          | (go_at_call 74; refine HTK.out.mono ?_; rintro en w1 ⟨rfl, hb1⟩; have HG1 := Lib.hid (HAG.out.below hb1); clear hb1)
          | (go_at_call 72; refine (HWA.out _ w1.heap.size (HG1.out.pg.2.ext (below_a1 _ _)) (heap_new _ _)).mono ?_; rintro en w2 ⟨⟨u2, rfl⟩, hp2⟩; have HG2 := Lib.hid ((HG1.out.below (below_a1 _ _)).take hp2 HRE.out hpbb hne1 hne2); clear hp2))
        go_end0
        exact ⟨⟨_, rfl⟩, done, by rw [HLL.out, List.append_nil], HG2.out⟩
  · rw [h41] at hx
    simp only [if_true, Option.some.injEq, Prod.mk.injEq] at hx
    obtain ⟨rfl, rfl⟩ := hx
    obtain ⟨hrne, hre⟩ := h.en.tail (tokIs_kind h41)
    have HTK := Lib.hid (take_yes pb tb t r [41] W h.pg.2 h41 hrne)
    have HRE := Lib.hid hre
    clear h h41 hrne hre ih hbs
    go_enter Tryz.func113, Tryz.ntmps113
    go_wp2_with (first
      | (go_at_call 74; refine HTK.out.mono ?_; rintro en w1 ⟨rfl, hp1⟩; have HG1 := Lib.hid (HA.out.take hp1 HRE.out hpbb hne1 hne2); clear hp1))
    refine bodyPost_ret (results_none rfl _ _ _) rfl ?_
    exact ⟨⟨_, rfl⟩, [], rfl, HG1.out⟩
end Go.Proofs.YtjgbkdbkachciaaGreatDoor

namespace Go.Proofs.YtjgbkdbkachciaaGreatDoor
open Go.RowKit Go.Shelf
attribute [local go_sem] Oper.semAt_some

theorem results_f227 {tmps : Array Value} {w : World} {b : Nat} {v : Value} (h2 : tmps.getD 2 undef = .pointer (some ⟨b, 0, none⟩)) (hr : Row w b 29 [v]) : (results Tryz.f227 tmps).run Tryz.prog w = .ok v w := by
  have h2' : tmps[2]?.getD undef = .pointer (some ⟨b, 0, none⟩) := by simpa using h2
  have c0 := hr.cell 0
  simp only [List.getElem?_cons_zero] at c0
  simp [results, h2', asAddr, go_sem, c0]
set_option maxRecDepth 100000 in
set_option maxHeartbeats 4000000 in
/-- a call's parts -/
theorem args_step (k : Nat) (ih : ∀ j, j ≤ k → EOk j) (pb tb : Nat) (ts us : List Tok) (l : List LE) (w : World) (h : PS w pb tb ts) (he : Ended ts) (hl : l.length ≤ 1000) (hx : agF (k + 1) ts = some (l, us)) :
    Calls Tryz.prog 227 #[.pointer (some ⟨pb, 0, none⟩)] w (fun e w' => (∃ av, e = .returned av ∧ EArgs w.heap.size w' av (.mk 0 0 0 [] l) ∧ PG w pb tb us w') ∧ Ended us) := by
  obtain ⟨t, r, rfl⟩ : ∃ t r, ts = t :: r := by
    obtain ⟨e, h1, _⟩ := he
    cases ts with
    | nil => cases h1
    | cons t r => exact ⟨t, r, rfl⟩
  have hpl := h.lt
  have htl := h.tlt
  obtain ⟨w1, hw1⟩ : ∃ w1, w1 = (w.alloc (.cells #[.pointer (some ⟨pb, 0, none⟩)] 89)).alloc (.cells #[.slice none 0 0] 29) := ⟨_, rfl⟩
  have hb1 : Below w.heap.size w w1 := by rw [hw1]; exact below_a2 _ _ _
  have hag : AgI w pb tb w.heap.size (w.heap.size + 1) (w.heap.size + 1 + 1) (t :: r) [] w1 := by
    refine ⟨PG.start h hb1, he, ?_, _, ?_, EsI.nil _ _⟩
    · rw [hw1]; exact heap_old _ _ (heap_new _ _)
    · rw [hw1]; exact heap_new2 _ _ _
  have hx0 := hag.x.cell 0
  simp only [List.getElem?_cons_zero] at hx0
  have HC := Lib.hid (commas_yes k ih pb tb w.heap.size (w.heap.size + 1) (w.heap.size + 1 + 1) (t :: r) us l w w1 hag hx hl hpl htl (Nat.le_refl _) (Nat.lt_succ_self _) rfl)
  have hwe := hw1.symm
  clear h he hx hw1 hag ih hb1
  go_enter Tryz.func227, Tryz.ntmps227
  go_wp2_with (first
    | (go_at_call 113; refine HC.out.mono ?_; rintro en w2 ⟨⟨u, rfl⟩, done, hd, hag⟩; have HA := Lib.hid hag; have HD := Lib.hid hd; clear hag hd))
  obtain ⟨v, hro, hes⟩ := HA.out.o
  refine bodyPost_ret (results_f227 rfl hro) rfl ?_
  have hdl : done.length ≤ 1000000000 := by have := congrArg List.length HD.out; rw [List.length_map] at this; omega
  obtain ⟨d, h1⟩ := hes.read (e := .mk 0 0 0 [] l) hdl HD.out.symm
  exact ⟨⟨v, rfl, EArgs.mono (base := w.heap.size + 1 + 1) ⟨d, h1⟩ (by omega), HA.out.pg⟩, HA.out.en⟩
end Go.Proofs.YtjgbkdbkachciaaGreatDoor
