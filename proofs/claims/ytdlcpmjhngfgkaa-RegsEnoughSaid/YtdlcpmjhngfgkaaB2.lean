import Derived.Test.YtdlcpmjhngfgkaaB1
namespace Go.Proofs.Ytdlcpmjhngfgkaa
open Go.RowKit

theorem nodup_map_inj {β γ : Type} {f : β → γ} : ∀ {l : List β}, (l.map f).Nodup → ∀ {x y : β}, x ∈ l → y ∈ l → f x = f y → x = y
  | [], _, _, _, hx, _, _ => by cases hx
  | a :: l, hn, x, y, hx, hy, e => by
    rw [List.map_cons, List.nodup_cons] at hn
    rcases List.mem_cons.1 hx with rfl | hx'
    · rcases List.mem_cons.1 hy with rfl | hy'
      · rfl
      · exact (hn.1 (by rw [e]; exact List.mem_map_of_mem hy')).elim
    · rcases List.mem_cons.1 hy with rfl | hy'
      · exact (hn.1 (by rw [← e]; exact List.mem_map_of_mem hx')).elim
      · exact nodup_map_inj hn.2 hx' hy' e

section
variable {α : Type} [DecidableEq α] {enc : α → Value}

/-- block r is a walk over the map at block b, whose keys are ys; left: those that have not come -/
def IterAt (enc : α → Value) (w : World) (r b : Nat) (ys left : List α) : Prop :=
  ∃ es clock seen, w.heap[b]? = some (.map es clock) ∧ es.toList.map (·.key) = ys.map enc ∧ (∀ e ∈ es.toList, e.val = .agg #[] ∧ e.born < clock) ∧ (es.toList.map (·.born)).Nodup ∧
    w.heap[r]? = some (.mapIter (some b) clock seen clock) ∧ (es.toList.filter (fun e => !seen.contains e.born)).map (·.key) = left.map enc

omit [DecidableEq α] in
theorem IterAt.set {w : World} {r b : Nat} {ys left : List α} (h : IterAt enc w r b ys left) : SetAt w b (ys.map enc) := by
  obtain ⟨es, clock, seen, h1, h2, h3, h4, _⟩ := h; exact ⟨es, clock, h1, h2, h3, h4⟩

omit [DecidableEq α] in
theorem IterAt.kept {w w' : World} {r b : Nat} {ys left : List α} (h : IterAt enc w r b ys left) (hb : w'.heap[b]? = w.heap[b]?) (hr : w'.heap[r]? = w.heap[r]?) : IterAt enc w' r b ys left := by
  obtain ⟨es, clock, seen, h1, h2, h3, h4, h5, h6⟩ := h; exact ⟨es, clock, seen, hb.trans h1, h2, h3, h4, hr.trans h5, h6⟩

omit [DecidableEq α] in
theorem run_rangeS {T K : TypeId} (hT : Try.prog.underlying T = some (.map K 78)) {w : World} {b : Nat} {ys : List α} (hs : SetAt w b (ys.map enc)) :
    ∃ w', (Instr.range T (.map (some b))).run Try.prog w = .ok (.pointer (some ⟨w.heap.size, 0, none⟩)) w' ∧ IterAt enc w' w.heap.size b ys ys ∧ w.grownBy w' none ∧ w'.heap.size = w.heap.size + 1 := by
  obtain ⟨es, clock, hb, hk, hv, hn⟩ := hs
  have hrun : (Instr.range T (.map (some b))).run Try.prog w = .ok (.pointer (some ⟨w.heap.size, 0, none⟩)) (w.alloc (.mapIter (some b) clock #[] clock)) := by
    unfold Instr.range
    simp only [Sem.run_bind, run_underlying hT, Result.andThen_ok, run_getMap hb, Sem.run_pure]
    rfl
  refine ⟨_, hrun, ⟨es, clock, #[], heap_old _ _ hb, hk, hv, hn, heap_new _ _, ?_⟩, ⟨rfl, rfl, rfl, by simp, fun k hk _ => Below.heap_alloc _ _ _ hk⟩, by simp⟩
  rw [List.filter_eq_self.2 (by simp)]; exact hk

omit [DecidableEq α] in
theorem map_filter_two {p : MapEntry → Bool} {q : α → Bool} : ∀ (l : List MapEntry) (m : List α), l.map (·.key) = m.map enc → (∀ x ∈ l, ∀ a, x.key = enc a → p x = q a) → (l.filter p).map (·.key) = (m.filter q).map enc
  | [], [], _, _ => rfl
  | x :: l, a :: m, h, hp => by
    simp only [List.map_cons, List.cons.injEq] at h
    have ih := map_filter_two l m h.2 (fun z hz b hb => hp z (List.mem_cons_of_mem _ hz) b hb)
    have hx := hp x List.mem_cons_self a h.1
    rw [List.filter_cons, List.filter_cons, hx]
    split
    · rw [List.map_cons, List.map_cons, ih, h.1]
    · exact ih
  | [], _ :: _, h, _ => by simp at h
  | _ :: _, [], h, _ => by simp at h

theorem nodup_map_enc {β γ : Type} {f : β → γ} (hf : ∀ x y, f x = f y → x = y) : ∀ {l : List β}, l.Nodup → (l.map f).Nodup
  | [], _ => by simp
  | a :: l, h => by
    rw [List.nodup_cons] at h
    rw [List.map_cons, List.nodup_cons]
    refine ⟨fun hm => ?_, nodup_map_enc hf h.2⟩
    obtain ⟨b, hb, e⟩ := List.mem_map.1 hm
    exact h.1 (hf _ _ e ▸ hb)

theorem filter_push {es : List MapEntry} {seen : Array Nat} {e : MapEntry} (hn : (es.map (·.born)).Nodup) (he : e ∈ es) (left : List α) (hl : (es.filter (fun e => !seen.contains e.born)).map (·.key) = left.map enc)
    (hinj : ∀ x y, enc x = enc y → x = y) (hleft : left.Nodup) (y : α) (hy : e.key = enc y) (hse : seen.contains e.born = false) :
    (es.filter (fun x => !(seen.push e.born).contains x.born)).map (·.key) = (left.erase y).map enc := by
  have h1 : es.filter (fun x => !(seen.push e.born).contains x.born) = (es.filter (fun x => !seen.contains x.born)).filter (fun x => decide (x.born ≠ e.born)) := by
    rw [List.filter_filter]
    apply List.filter_congr
    intro x _
    rw [Bool.eq_iff_iff]
    simp only [Array.contains_push, Bool.not_or, Bool.and_eq_true, Bool.not_eq_true', decide_eq_true_eq, beq_eq_false_iff_ne, ne_eq]
    exact and_comm
  rw [h1, hleft.erase_eq_filter]
  generalize hL : es.filter (fun x => !seen.contains x.born) = Lf at hl ⊢
  have hsub : ∀ x ∈ Lf, x ∈ es := fun x hx => by rw [← hL] at hx; exact (List.mem_filter.1 hx).1
  have heL : e ∈ Lf := by rw [← hL]; exact List.mem_filter.2 ⟨he, by simp only [hse]; rfl⟩
  clear hL h1
  -- by the keys of Lf being apart
  have hkn : (Lf.map (·.key)).Nodup := by
    rw [hl]; exact nodup_map_enc hinj hleft
  refine map_filter_two Lf left hl (fun x hx a ha => ?_)
  rw [Bool.eq_iff_iff, decide_eq_true_eq, bne_iff_ne]
  constructor
  · rintro hb rfl
    exact hb (by rw [nodup_map_inj hkn hx heL (by rw [ha, hy])])
  · intro hay hb
    have := nodup_map_inj hn (hsub x hx) he hb
    subst this
    exact hay (hinj _ _ (by rw [← ha, ← hy]))

theorem run_nextS {w : World} {r b : Nat} {ys left : List α} (h : IterAt enc w r b ys left) (hinj : ∀ x y, enc x = enc y → x = y) (hleft : left.Nodup) (ty : TypeId) :
    (left = [] ∧ (Instr.next (.pointer (some ⟨r, 0, none⟩)) false ty).run Try.prog w = .ok (.tuple #[.bool false]) w) ∨
    (∃ y w', y ∈ left ∧ (Instr.next (.pointer (some ⟨r, 0, none⟩)) false ty).run Try.prog w = .ok (.tuple #[.bool true, enc y, .agg #[]]) w' ∧ IterAt enc w' r b ys (left.erase y) ∧ w.grownBy w' (some r) ∧ w'.heap.size = w.heap.size ∧
      (Instr.entry (.pointer (some ⟨r, 0, none⟩))).run Try.prog w' = .ok (.tuple #[enc y, .agg #[]]) w') := by
  obtain ⟨es, clock, seen, hb, hk, hv, hn, hr, hl⟩ := h
  have hg : (getObj r).run Try.prog w = .ok (.mapIter (some b) clock seen clock) w := by simp [getObj, Sem.run, hr]
  have hgb := run_getMap hb
  have hcond : (!seen.isEmpty && !es.isEmpty && es.all (fun e => decide (e.born ≥ clock))) = false := by
    cases hes : es.isEmpty with
    | true => simp
    | false =>
      have h0 : 0 < es.size := by rw [Array.isEmpty_eq_false_iff] at hes; exact Array.size_pos_iff.2 hes
      have : es.all (fun e => decide (e.born ≥ clock)) = false := by
        rw [Array.all_eq_false]
        refine ⟨0, h0, ?_⟩
        have := (hv es[0] (by simp)).2
        simp; omega
      simp [this]
  obtain ⟨Lf, hLf⟩ : ∃ Lf, es.filter (fun e => !seen.contains e.born) = Lf := ⟨_, rfl⟩
  have hLl : Lf.toList = es.toList.filter (fun e => !seen.contains e.born) := by rw [← hLf, Array.toList_filter]
  have hold : Lf.filter (fun e => decide (e.born < clock)) = Lf := by
    rw [Array.filter_eq_self]
    intro e he
    have : e ∈ es.toList := by rw [← Array.mem_toList_iff, hLl] at he; exact (List.mem_filter.1 he).1
    simpa using (hv e this).2
  have hnew : Lf.filter (fun e => decide (e.born ≥ clock)) = #[] := by
    rw [Array.filter_eq_empty_iff]
    intro e he
    have : e ∈ es.toList := by rw [← Array.mem_toList_iff, hLl] at he; exact (List.mem_filter.1 he).1
    have := (hv e this).2
    simp; omega
  have hch : ∀ n : Nat, 0 < n → ∃ i w1, (choose (.mapNext n)).run Try.prog w = .ok i w1 ∧ i < n ∧ w1.heap = w.heap ∧ w.grownBy w1 none := fun n hn0 => by
    by_cases h1 : n ≤ 1
    · exact ⟨0, w, by simp [choose, Sem.run, Question.forced, h1], hn0, rfl, ⟨rfl, rfl, rfl, Nat.le_refl _, fun _ _ _ => rfl⟩⟩
    · exact ⟨(w.tape w.drawn (.mapNext n)) % n, w.drew, by simp [Question.forced, h1, Question.cut], Nat.mod_lt _ hn0, rfl, ⟨rfl, rfl, rfl, Nat.le_refl _, fun _ _ _ => rfl⟩⟩
  unfold Instr.next
  simp only [Sem.run_bind, hg, hgb, Result.andThen_ok, hcond, hLf, hold, hnew, Bool.false_eq_true, if_false, Array.append_empty]
  by_cases hE : Lf.isEmpty = true
  · left
    have hL0 : Lf = #[] := by simpa using hE
    refine ⟨?_, ?_⟩
    · rw [← hLl, hL0] at hl; simpa using hl.symm
    · obtain ⟨i, w1, hc, hi, _, _⟩ := hch 1 (by decide)
      have hc1 : (choose (.mapNext 1)).run Try.prog w = .ok 0 w := by simp [choose, Sem.run, Question.forced]
      have hs1 : ((if (#[] : Array MapEntry).isEmpty = true then #[none] else #[]) ++ Array.map some (#[] : Array MapEntry)) = #[none] := by simp
      rw [hL0, hs1]
      show ((choose (.mapNext 1)).run Try.prog w).andThen _ = _
      rw [hc1]; rfl
  · right
    have hpos : 0 < Lf.size := by
      rcases Nat.eq_zero_or_pos Lf.size with h0 | h0
      · exact (hE (by simpa using h0)).elim
      · exact h0
    obtain ⟨i, w1, hc, hi, hh, hg1⟩ := hch Lf.size hpos
    have hmem : Lf[i] ∈ es.toList.filter (fun e => !seen.contains e.born) := by rw [← hLl]; simp
    obtain ⟨hmem1, hmem2⟩ := List.mem_filter.1 hmem
    obtain ⟨y, hyl, hy⟩ : ∃ y, y ∈ left ∧ enc y = Lf[i].key := by
      have : Lf[i].key ∈ left.map enc := by rw [← hl]; exact List.mem_map_of_mem hmem
      obtain ⟨y, h1, h2⟩ := List.mem_map.1 this; exact ⟨y, h1, h2⟩
    have hval := (hv _ hmem1).1
    have hr1 : w1.heap[r]? = some (.mapIter (some b) clock seen clock) := by rw [hh]; exact hr
    have hset : (setObj r (.mapIter (some b) clock (seen.push Lf[i].born) clock)).run Try.prog w1 = .ok () (putB w1 r (.mapIter (some b) clock (seen.push Lf[i].born) clock)) := by
      simp [setObj, Sem.run, hr1, putB]
    have hrb : r ≠ b := by rintro rfl; rw [hr] at hb; cases hb
    refine ⟨y, putB w1 r (.mapIter (some b) clock (seen.push Lf[i].born) clock), hyl, ?_, ?_, ?_, ?_, ?_⟩
    · have hs1 : ((if Lf.isEmpty = true then #[none] else #[]) ++ Array.map some Lf) = Array.map some Lf := by simp [hE]
      rw [hs1, Array.size_map, hc, Result.andThen_ok, Array.getElem?_map, Array.getElem?_eq_getElem hi]
      simp only [Option.map_some, Sem.run_bind, hset, Result.andThen_ok, Sem.run_pure, hval, hy]
    · refine ⟨es, clock, seen.push Lf[i].born, ?_, hk, hv, hn, putB_at hr1, ?_⟩
      · rw [(putB_grown w1 r _).block b (by rw [hh]; exact (Array.getElem?_eq_some_iff.1 hb).1) (by simpa using fun e => hrb e.symm), hh]; exact hb
      · exact filter_push hn hmem1 left hl hinj hleft y hy.symm (by simpa using hmem2)
    · refine ⟨hg1.os, hg1.tape, hg1.output, ?_, fun k hk hne => ?_⟩
      · rw [putB_size, hh]; exact Nat.le_refl _
      · rw [(putB_grown w1 r _).block k (by rw [hh]; exact hk) hne, hh]
    · rw [putB_size, hh]
    · have hb2 : (putB w1 r (.mapIter (some b) clock (seen.push Lf[i].born) clock)).heap[b]? = some (.map es clock) := by
        rw [(putB_grown w1 r _).block b (by rw [hh]; exact (Array.getElem?_eq_some_iff.1 hb).1) (by simpa using fun e => hrb e.symm), hh]; exact hb
      have hr2 := putB_at (o' := Obj.mapIter (some b) clock (seen.push Lf[i].born) clock) hr1
      generalize putB w1 r (.mapIter (some b) clock (seen.push Lf[i].born) clock) = W at hb2 hr2
      have hg2 : (getObj r).run Try.prog W = .ok (.mapIter (some b) clock (seen.push Lf[i].born) clock) W := by simp [getObj, Sem.run, hr2]
      have hfind : es.find? (fun e => e.born == Lf[i].born) = some Lf[i] := by
        rw [← Array.find?_toList]
        have h1 : ∃ x ∈ es.toList, (x.born == Lf[i].born) = true := ⟨_, hmem1, by simp⟩
        cases hf : es.toList.find? (fun e => e.born == Lf[i].born) with
        | none =>
          have := List.find?_eq_none.1 hf _ hmem1
          simp at this
        | some z =>
          have h2 := List.find?_some hf
          have h3 := List.mem_of_find?_eq_some hf
          rw [nodup_map_inj hn h3 hmem1 (by simpa using h2)]
      unfold Instr.entry
      simp only [Sem.run_bind, hg2, Result.andThen_ok, Array.back?_push, run_getMap hb2, bne_self_eq_false, Bool.false_eq_true, if_false, hfind, Sem.run_pure, hval, hy]

/-! ### at the walk -/
variable {K T : TypeId} (L : KeyLaw K enc) (hT : Try.prog.underlying T = some (.map K 78))
variable {w : World} {ops : Array Oper} {rest : List Oper} {o : Oper} {a : Act} {Q : Exit → Act → World → Prop}

include L hT in
theorem wpList_lookS (hgd : o.guard = none) (m x : Operand) (hop : o.op = .lookup T m x true) (b : Nat) (ys : List α) (y : α) (hm : a.eval m = .map (some b)) (hx : a.eval x = enc y) (hs : SetAt w b (ys.map enc))
    (h : wpList Try.prog ops Q rest (a.put o.dst (.tuple #[.agg #[], .bool (decide (y ∈ ys))])) w) : wpList Try.prog ops Q (o :: rest) a w := by
  refine wpList_plain hgd fun K' hK' => ?_
  have hrun := run_lookS L hT hs y
  unfold Oper.wp
  simp [execOp, hop, hm, hx, hrun, Result.andThen]
  exact hK' _ _ h

include L hT in
theorem wpList_putS (hgd : o.guard = none) (m x v : Operand) (hop : o.op = .mapUpdate T m x v) (b : Nat) (ys : List α) (y : α) (hm : a.eval m = .map (some b)) (hx : a.eval x = enc y) (hv : a.eval v = .agg #[]) (hs : SetAt w b (ys.map enc))
    (h : ∀ w', SetAt w' b ((insL y ys).map enc) → w.grownBy w' (some b) → w'.heap.size = w.heap.size → wpList Try.prog ops Q rest (a.put o.dst undef) w') : wpList Try.prog ops Q (o :: rest) a w := by
  refine wpList_plain hgd fun K' hK' => ?_
  obtain ⟨w', hrun, h1, h2, h3⟩ := run_putS L hT hs y
  unfold Oper.wp
  simp [execOp, hop, hm, hx, hv, hrun, Result.andThen]
  exact hK' _ _ (h w' h1 h2 h3)

include L hT in
theorem wpList_delS (hgd : o.guard = none) (m x : Operand) (hop : o.op = .call { callee := .builtin .delete, args := #[m, x], argTypes := #[T, K] }) (b : Nat) (ys : List α) (y : α) (hm : a.eval m = .map (some b)) (hx : a.eval x = enc y) (hs : SetAt w b (ys.map enc))
    (h : ∀ w', SetAt w' b ((ys.erase y).map enc) → w.grownBy w' (some b) → w'.heap.size = w.heap.size → wpList Try.prog ops Q rest (a.put o.dst (.tuple #[])) w') : wpList Try.prog ops Q (o :: rest) a w := by
  refine wpList_plain hgd fun K' hK' => ?_
  obtain ⟨w', hrun, h1, h2, h3⟩ := run_delS L hT hs y o.type
  unfold Oper.wp
  simp [execOp, hop, resolve, invoke, builtin, hm, hx, hrun, Result.andThen]
  exact hK' _ _ (h w' h1 h2 h3)

include hT in
theorem wpList_lenS (hgd : o.guard = none) (m : Operand) (hop : o.op = .call { callee := .builtin .len, args := #[m], argTypes := #[T] }) (b : Nat) (ks : List Value) (hm : a.eval m = .map (some b)) (hs : SetAt w b ks)
    (h : wpList Try.prog ops Q rest (a.put o.dst (.int .i64 ks.length)) w) : wpList Try.prog ops Q (o :: rest) a w := by
  refine wpList_plain hgd fun K' hK' => ?_
  have hrun := run_lenS hT hs o.type
  unfold Oper.wp
  simp [execOp, hop, resolve, invoke, builtin, hm, hrun, Result.andThen]
  exact hK' _ _ h

omit [DecidableEq α] in
include hT in
theorem wpList_rangeS (hgd : o.guard = none) (m : Operand) (hop : o.op = .range T m) (b : Nat) (ys : List α) (hm : a.eval m = .map (some b)) (hs : SetAt w b (ys.map enc))
    (h : ∀ w', IterAt enc w' w.heap.size b ys ys → w.grownBy w' none → w'.heap.size = w.heap.size + 1 → wpList Try.prog ops Q rest (a.put o.dst (.pointer (some ⟨w.heap.size, 0, none⟩))) w') : wpList Try.prog ops Q (o :: rest) a w := by
  refine wpList_plain hgd fun K' hK' => ?_
  obtain ⟨w', hrun, h1, h2, h3⟩ := run_rangeS (enc := enc) hT hs
  unfold Oper.wp
  simp [execOp, hop, hm, hrun, Result.andThen]
  exact hK' _ _ (h w' h1 h2 h3)

theorem wpList_nextS (hgd : o.guard = none) (m : Operand) (hop : o.op = .next m false) (r b : Nat) (ys left : List α) (hinj : ∀ x y, enc x = enc y → x = y) (hleft : left.Nodup) (hm : a.eval m = .pointer (some ⟨r, 0, none⟩)) (hs : IterAt enc w r b ys left)
    (h0 : left = [] → wpList Try.prog ops Q rest (a.put o.dst (.tuple #[.bool false])) w)
    (h : ∀ y w', y ∈ left → IterAt enc w' r b ys (left.erase y) → w.grownBy w' (some r) → w'.heap.size = w.heap.size →
      (Instr.entry (.pointer (some ⟨r, 0, none⟩))).run Try.prog w' = .ok (.tuple #[enc y, .agg #[]]) w' → wpList Try.prog ops Q rest (a.put o.dst (.tuple #[.bool true, enc y, .agg #[]])) w') : wpList Try.prog ops Q (o :: rest) a w := by
  refine wpList_plain hgd fun K' hK' => ?_
  rcases run_nextS hs hinj hleft o.type with ⟨hl, hrun⟩ | ⟨y, w', hy, hrun, h1, h2, h3, h4⟩
  · unfold Oper.wp
    simp [execOp, hop, hm, hrun, Result.andThen]
    exact hK' _ _ (h0 hl)
  · unfold Oper.wp
    simp [execOp, hop, hm, hrun, Result.andThen]
    exact hK' _ _ (h y w' hy h1 h2 h3 h4)

end
end Go.Proofs.Ytdlcpmjhngfgkaa
