import Derived.Test.YtdlcpmjhngfgkaaB0
namespace Go.Proofs.Ytdlcpmjhngfgkaa
open Go.RowKit

/-! ### as in B0, where what holds at a stage may speak of the values that have come -/
section
variable {F : Fence} {n : Nat} {P : Program} {ops : Array Oper} {Q : Exit → Act → World → Prop}

theorem wpIn_region_rv {id : Nat} {a0 : Act} {w : World} (hm : P.follows .mixedOrders = true) (E : List Nat) (hE : E.Nodup) (hok : rgOK ops a0.tmps.size = true)
    (C : Nat → (Nat → Value) → World → Prop) (Step : World → World → Prop) (Φ : Nat → Value → World → Prop) (h0 : C 0 (fun _ => undef) { w with drawn := w.drawn + 1 })
    (hst : ∀ j v W W', Step W W' → Φ j v W → Φ j v W')
    (hop : ∀ i o, ops[i]? = some o → ∀ (k : Nat) (a : Act) (W : World) (vs : Nat → Value), rgStage ops E i k = true → C k vs W → (∀ j, bef ops i j = true → Φ j (vs j) W) → a.tmps.size = a0.tmps.size →
      (∀ t ∈ o.looksAt ops, a.tmps.getD t undef = slotOf ops a0 vs (bef ops i) t) →
      wpOpIn F n P ops Q i (fun a' W' => ∃ v, a' = a.put o.dst v ∧ C (if i ∈ E then k + 1 else k) (fun k => if k = i then v else vs k) W' ∧ Step W W' ∧ Φ i v W') a W)
    (hend : ∀ vs W, C E.length vs W → (∀ j, j < ops.size → Φ j (vs j) W) → Q .normal { tmps := ((List.range a0.tmps.size).map (slotOf ops a0 vs (fun _ => true))).toArray, defers := a0.defers } W)
    (hEs : ∀ e ∈ E, e < ops.size) : (Code.region id ops true).wpIn F n P Q a0 w := by
  unfold rgOK at hok
  simp only [Bool.and_eq_true, List.all_eq_true, List.mem_range] at hok
  obtain ⟨⟨k1, k2⟩, k3⟩ := hok
  have hwr : ∀ {t : Tmp} {j : Nat}, wrOf ops t = some j → j < ops.size ∧ dstAt ops j = some t := fun {t j} h => by
    unfold wrOf at h
    have h1 := List.find?_some h
    have h2 := List.mem_of_find?_eq_some h
    simp at h1 h2
    exact ⟨h2, h1⟩
  have hdst : ∀ {i : Nat} {t : Tmp}, i < ops.size → dstAt ops i = some t → t < a0.tmps.size ∧ wrOf ops t = some i := fun {i t} hi ht => by
    have := k1 i hi
    rw [ht] at this
    simpa using this
  refine wpIn_region_inv hm (fun listed a W => ∃ vs : Nat → Value, C (stageOf E (lst listed)) vs W ∧ (∀ j, lst listed j = true → Φ j (vs j) W) ∧ closedL ops (fun j => lst listed j = true) ∧ a.tmps.size = a0.tmps.size ∧ a.defers = a0.defers ∧ ∀ t, a.tmps.getD t undef = slotOf ops a0 vs (lst listed) t) ?_ ?_ ?_
  · have hl : ∀ j, lst (Array.replicate ops.size false) j = false := fun j => by
      unfold lst; rw [Array.getD_eq_getD_getElem?, Array.getElem?_replicate]; split <;> rfl
    refine ⟨fun _ => undef, ?_, (fun j hj => by rw [hl] at hj; cases hj), (fun j hj => by simp only [hl] at hj; cases hj), rfl, rfl, fun t => ?_⟩
    · have : stageOf E (lst (Array.replicate ops.size false)) = 0 := by
        unfold stageOf; rw [List.countP_eq_zero]; intro e _; rw [hl]; simp
      rw [this]; exact h0
    · unfold slotOf; split
      · rw [hl]; rfl
      · rfl
  · rintro listed a W i hs ⟨vs, hC, hΦ, hcl, hsz, hdf, hsl⟩ hi
    obtain ⟨hin, hun, o, ho, hed⟩ := mem_ready hi
    have hun' : lst listed i = false := by
      unfold lst; rw [Array.getD_eq_getD_getElem?] at hun ⊢
      rw [Array.getElem?_eq_getElem (by rw [hs]; exact hin)] at hun ⊢
      simpa using hun
    have hedg : edgesL ops (fun j => lst listed j = true) i := fun o' ho' e he hb => by
      rw [ho] at ho'; cases ho'; exact hed e he hb
    have hbf : ∀ j, bef ops i j = true → lst listed j = true := fun j hj => bef_in hj hcl hedg
    have hnb : ∀ j, bef ops j i = true → lst listed j = false := fun j hj => by
      cases hlj : lst listed j with
      | false => rfl
      | true =>
        have := bef_in (L := fun j => lst listed j = true) hj hcl (hcl j hlj)
        rw [hun'] at this; cases this
    have hstg : rgStage ops E i (stageOf E (lst listed)) = true := by
      unfold rgStage stageOf
      rw [Bool.and_eq_true, decide_eq_true_eq, decide_eq_true_eq]
      refine ⟨countP_mono' E (fun e _ he => hbf e he), ?_⟩
      have h1 := countP_split (lst listed) E
      have h2 : E.countP (fun e => bef ops e i || e == i) ≤ E.countP (fun x => !lst listed x) := countP_mono' E (fun e _ he => by
        rw [Bool.or_eq_true] at he
        rcases he with he | he
        · rw [hnb e he]; rfl
        · have : e = i := by simpa using he
          rw [this, hun']; rfl)
      omega
    refine wpOpIn_mono ?_ (hop i o ho _ a W vs hstg hC (fun j hj => hΦ j (hbf j hj)) hsz (fun t ht => ?_))
    · rintro a' W' ⟨v, rfl, hC', hS', hv⟩
      refine ⟨fun k => if k = i then v else vs k, ?_, ?_, ?_, ?_, ?_, ?_⟩
      · have : stageOf E (lst (listed.setIfInBounds i true)) = (if i ∈ E then stageOf E (lst listed) + 1 else stageOf E (lst listed)) := by
          unfold stageOf
          have he : (fun x => lst (listed.setIfInBounds i true) x) = (fun x => decide (x = i) || lst listed x) := funext fun x => lst_set (by rw [hs]; exact hin)
          rw [show E.countP (lst (listed.setIfInBounds i true)) = E.countP (fun x => decide (x = i) || lst listed x) from by rw [← he], countP_one E hE hun']
          split <;> rfl
        rw [this]; exact hC'
      · intro j hj
        rw [lst_set (by rw [hs]; exact hin)] at hj
        by_cases h : j = i
        · subst h; simpa using hv
        · simp only [h, decide_false, Bool.false_or] at hj
          simp only [h, if_false]
          exact hst j _ W W' hS' (hΦ j hj)
      · intro j hj o' ho' e he hb
        rw [lst_set (by rw [hs]; exact hin)] at hj
        show lst _ _ = true
        rw [lst_set (by rw [hs]; exact hin), Bool.or_eq_true]
        right
        by_cases h : j = i
        · subst h; exact hedg o' ho' e he hb
        · simp only [h, decide_false, Bool.false_or] at hj
          exact hcl j hj o' ho' e he hb
      · cases hd : o.dst <;> simp [Act.put, hsz]
      · cases hd : o.dst <;> simp [Act.put, hdf]
      · intro t
        have hdo : dstAt ops i = o.dst := by simp [dstAt, ho]
        by_cases hdt : o.dst = some t
        · obtain ⟨h1, h2⟩ := hdst hin (hdo.trans hdt)
          have : (a.put o.dst v).tmps.getD t undef = v := by
            rw [hdt]; simp [Act.put, hsz, h1]
          rw [this]
          unfold slotOf
          rw [h2]
          simp only [lst_set (show i < listed.size by rw [hs]; exact hin)]
          simp
        · have : (a.put o.dst v).tmps.getD t undef = a.tmps.getD t undef := by
            cases hd : o.dst with
            | none => rfl
            | some d =>
              have hne : d ≠ t := fun e => hdt (by rw [hd, e])
              simp only [Act.put, Array.getD_eq_getD_getElem?, Array.getElem?_setIfInBounds, hne, if_false]
          rw [this, hsl t]
          unfold slotOf
          cases hw : wrOf ops t with
          | none => rfl
          | some j =>
            have hji : j ≠ i := by
              rintro rfl
              exact hdt (hdo ▸ (hwr hw).2)
            simp only [lst_set (show i < listed.size by rw [hs]; exact hin), hji, decide_false, Bool.false_or, if_false]
    · rw [hsl t]
      unfold slotOf
      cases hw : wrOf ops t with
      | none => rfl
      | some j =>
        have h2 := k2 i hin
        rw [ho] at h2
        simp only [Option.map_some, Option.all_some, List.all_eq_true] at h2
        have h3 := h2 t ht
        rw [hw] at h3
        simp only [Option.all_some, Bool.or_eq_true] at h3
        by_cases hb : bef ops i j = true
        · simp only [hb, if_true, hbf j hb]
        · have hb' : bef ops i j = false := by simpa using hb
          have hj := hnb j (h3.resolve_left hb)
          simp only [hb', hj]
  · rintro listed a W hs ⟨vs, hC, hΦ, hcl, hsz, hdf, hsl⟩ hr
    have hall : ∀ i, i < ops.size → lst listed i = true := by
      intro i
      induction i using Nat.strongRecOn with
      | _ i ih =>
        intro hi
        cases hl : lst listed i with
        | true => rfl
        | false =>
          exfalso
          have : i ∈ Region.ready .any ops listed := by
            unfold Region.ready
            simp only [List.mem_filter, List.mem_range, Bool.and_eq_true, Bool.not_eq_true']
            refine ⟨hi, ?_, ?_⟩
            · unfold lst at hl; rw [Array.getD_eq_getD_getElem?] at hl ⊢
              rw [Array.getElem?_eq_getElem (by rw [hs]; exact hi)] at hl ⊢
              simpa using hl
            · rw [Array.getElem?_eq_getElem hi]
              simp only [Option.map_some, Option.getD_some]
              rw [← Array.all_toList, List.all_eq_true]
              intro e he
              have h4 := k3 i hi
              rw [Array.getElem?_eq_getElem hi] at h4
              simp only [Option.map_some, Option.all_some, List.all_eq_true] at h4
              have h5 := h4 e he
              cases hb : Region.binds .any e with
              | false => rfl
              | true =>
                rw [hb] at h5
                simp only [Bool.not_true, Bool.false_or, decide_eq_true_eq] at h5
                have := ih e.on h5 (by omega)
                unfold lst at this
                simp [this]
          rw [hr] at this; cases this
    have hst' : stageOf E (lst listed) = E.length := by
      unfold stageOf
      rw [List.countP_eq_length]
      intro e he
      exact hall e (hEs e he)
    have ha : a = { tmps := ((List.range a0.tmps.size).map (slotOf ops a0 vs (fun _ => true))).toArray, defers := a0.defers } := by
      obtain ⟨tm, df⟩ := a
      simp only at hsz hdf hsl
      subst hdf
      congr 1
      apply Array.ext
      · simp [hsz]
      · intro t ht1 ht2
        have := hsl t
        rw [Array.getD_eq_getD_getElem?, Array.getElem?_eq_getElem ht1] at this
        simp only [Option.getD_some] at this
        rw [this]
        simp only [List.getElem_toArray, List.getElem_map, List.getElem_range]
        unfold slotOf
        cases hw : wrOf ops t with
        | none => rfl
        | some j => simp only [hall j (hwr hw).1]
    rw [ha]
    exact hend vs W (hst' ▸ hC) (fun j hj => hΦ j (hall j hj))

theorem wpIn_region_rvL {id : Nat} {a0 : Act} {w : World} (hm : P.follows .mixedOrders = true) (E : List Nat) (hE : E.Nodup) (hok : rgOK ops a0.tmps.size = true) (hEs : (E.all fun e => decide (e < ops.size)) = true)
    (C : Nat → (Nat → Value) → World → Prop) (Step : World → World → Prop) (Φ : Nat → Value → World → Prop) (h0 : C 0 (fun _ => undef) { w with drawn := w.drawn + 1 })
    (hst : ∀ j v W W', Step W W' → Φ j v W → Φ j v W')
    (hop : allL (fun i o => ∀ (k : Nat) (a : Act) (W : World) (vs : Nat → Value), ops[i]? = some o → rgStage ops E i k = true → C k vs W → (∀ j, bef ops i j = true → Φ j (vs j) W) → a.tmps.size = a0.tmps.size →
      (∀ t ∈ o.looksAt ops, a.tmps.getD t undef = slotOf ops a0 vs (bef ops i) t) →
      wpOpIn F n P ops Q i (fun a' W' => ∃ v, a' = a.put o.dst v ∧ C (if i ∈ E then k + 1 else k) (fun k => if k = i then v else vs k) W' ∧ Step W W' ∧ Φ i v W') a W) ops.toList 0)
    (hend : ∀ vs W, C E.length vs W → (∀ j, j < ops.size → Φ j (vs j) W) → Q .normal { tmps := ((List.range a0.tmps.size).map (slotOf ops a0 vs (fun _ => true))).toArray, defers := a0.defers } W) : (Code.region id ops true).wpIn F n P Q a0 w :=
  wpIn_region_rv hm E hE hok C Step Φ h0 hst (fun i o ho k a W vs h1 h2 h3 h4 h5 => by
    have := allL_at ops.toList 0 i o hop (by simpa using ho)
    rw [Nat.zero_add] at this
    exact this k a W vs ho h1 h2 h3 h4 h5) hend (fun e he => by have := List.all_eq_true.1 hEs e he; simpa using this)
end
end Go.Proofs.Ytdlcpmjhngfgkaa
