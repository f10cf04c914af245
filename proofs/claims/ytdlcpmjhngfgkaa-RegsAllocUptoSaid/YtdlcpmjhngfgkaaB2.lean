import Derived.Test.YtdlcpmjhngfgkaaA4
namespace Go.Proofs.Ytdlcpmjhngfgkaa
open Go.RowKit

/-- block b is a map whose keys are ks, in the order in which they came, each with an empty struct -/
def SetAt (w : World) (b : Nat) (ks : List Value) : Prop :=
  ∃ es clock, w.heap[b]? = some (.map es clock) ∧ es.toList.map (·.key) = ks ∧ (∀ e ∈ es.toList, e.val = .agg #[] ∧ e.born < clock) ∧ (es.toList.map (·.born)).Nodup

/-- how keys of type K are told apart -/
structure KeyLaw (K : TypeId) {α : Type} [DecidableEq α] (enc : α → Value) : Prop where
  inj : ∀ x y, enc x = enc y → x = y
  check : ∀ e x w, (Instr.checkKey e 10000 K (enc x)).run Try.prog w = .ok () w
  find : ∀ x (es : List MapEntry) (ys : List α) w, es.map (·.key) = ys.map enc →
    (Instr.findKey K (enc x) es).run Try.prog w = .ok ((ys.findIdx? (fun y => decide (x = y))).map fun i => (i, (es.map (·.val)).getD i undef)) w
  same : ∀ x, Instr.sameBits 10000 (enc x) (enc x) = true

theorem findNow_int (x : Int) : ∀ (es : List MapEntry) (ys : List Int) (n : Nat), es.map (·.key) = ys.map (Value.int .i64) →
    Instr.findNow (.int .i64) (.int .i64 x) es n = some ((ys.findIdx? (fun y => decide (x = y))).map fun i => (n + i, (es.map (·.val)).getD i undef))
  | [], [], n, _ => by simp [Instr.findNow]
  | e :: es, y :: ys, n, h => by
    simp only [List.map_cons, List.cons.injEq] at h
    have ih := findNow_int x es ys (n + 1) h.2
    unfold Instr.findNow
    rw [h.1]
    by_cases hxy : x = y
    · subst hxy
      simp [Instr.sameNow, List.findIdx?_cons]
    · have h2 : (x == y) = false := by simp [hxy]
      simp only [Instr.sameNow, if_true, h2, ih, List.findIdx?_cons, hxy, decide_false]
      cases hf : List.findIdx? (fun y => decide (x = y)) ys with
      | none => simp
      | some i => simp; omega
  | [], _ :: _, _, h => by simp at h
  | _ :: _, [], _, h => by simp at h

theorem keyInt : KeyLaw 3 (Value.int .i64) where
  inj := by intro x y h; cases h; rfl
  check := fun e x w => by
    unfold Instr.checkKey
    simp [run_underlying Try.underlying3]
  find := fun x es ys w h => by
    unfold Instr.findKey
    simp [run_underlying Try.underlying3, findNow_int x es ys 0 h]
  same := fun x => by simp [Instr.sameBits]


def encPair (p : Int × Int) : Value := .agg #[.int .i64 p.1, .int .i64 p.2]

theorem equal_pair (p q : Int × Int) (w : World) : (Op.equal 67 (encPair p) (encPair q)).run Try.prog w = .ok (decide (p = q)) w := by
  unfold Op.equal Op.maxDepth encPair
  unfold Op.equalIn
  have e1 : ∀ (a b : Int) (w : World), (Op.equalIn 9999 3 (.int .i64 a) (.int .i64 b)).run Try.prog w = .ok (a == b) w := fun a b w => run_equalIn_int w 9998 3 .i64 .i64 a b Try.underlying3
  obtain ⟨p1, p2⟩ := p
  obtain ⟨q1, q2⟩ := q
  have hr : List.range' 0 2 = [0, 1] := rfl
  have ha : ∀ w, (isAgg 3).run Try.prog w = .ok false w := Try.isAgg3
  by_cases h1 : p1 = q1
  · by_cases h2 : p2 = q2
    · simp [run_underlying Try.underlying67, go_sem, hr, ha, e1, h1, h2]
    · simp [run_underlying Try.underlying67, go_sem, hr, ha, e1, h1, h2]
  · simp [run_underlying Try.underlying67, go_sem, hr, ha, e1, h1]


theorem encPair_inj (p q : Int × Int) (h : encPair p = encPair q) : p = q := by
  obtain ⟨p1, p2⟩ := p; obtain ⟨q1, q2⟩ := q
  simp [encPair] at h; simp [h]

theorem findAsking_pair (x : Int × Int) (w : World) : ∀ (es : List MapEntry) (ys : List (Int × Int)) (n : Nat), es.map (·.key) = ys.map encPair →
    (Instr.findAsking 67 (encPair x) es n).run Try.prog w = .ok ((ys.findIdx? (fun y => decide (x = y))).map fun i => (n + i, (es.map (·.val)).getD i undef)) w
  | [], [], n, _ => by simp [Instr.findAsking]
  | e :: es, y :: ys, n, h => by
    simp only [List.map_cons, List.cons.injEq] at h
    have ih := findAsking_pair x w es ys (n + 1) h.2
    unfold Instr.findAsking
    rw [h.1]
    by_cases hxy : x = y
    · subst hxy
      simp [equal_pair, List.findIdx?_cons]
    · simp only [Sem.run_bind, equal_pair, Result.andThen_ok, hxy, decide_false, Bool.false_eq_true, if_false, ih, List.findIdx?_cons]
      cases hf : List.findIdx? (fun y => decide (x = y)) ys with
      | none => simp
      | some i => simp; omega
  | [], _ :: _, _, h => by simp at h
  | _ :: _, [], _, h => by simp at h

theorem keyPair : KeyLaw 67 encPair where
  inj := encPair_inj
  check := fun e x w => by
    have hr : List.range' 0 2 = [0, 1] := rfl
    have ha : ∀ w, (isAgg 3).run Try.prog w = .ok false w := Try.isAgg3
    have c1 : ∀ (b : Int) (w : World), (Instr.checkKey e 9999 3 (.int .i64 b)).run Try.prog w = .ok () w := fun b w => by
      unfold Instr.checkKey
      simp [run_underlying Try.underlying3]
    obtain ⟨p1, p2⟩ := x
    unfold Instr.checkKey encPair
    simp [run_underlying Try.underlying67, go_sem, hr, ha, c1]
  find := fun x es ys w h => by
    unfold Instr.findKey
    cases es with
    | nil =>
      cases ys with
      | nil => simp [run_underlying Try.underlying67, Instr.findNow]
      | cons y ys => simp at h
    | cons e es =>
      have hn : Instr.findNow (.array 2 3) (encPair x) (e :: es) 0 = none := by
        unfold Instr.findNow; simp [Instr.sameNow]
      have := findAsking_pair x w (e :: es) ys 0 h
      simp [run_underlying Try.underlying67, hn, this]
  same := fun x => by
    obtain ⟨p1, p2⟩ := x
    simp [encPair, Instr.sameBits]

/-- y put in -/
def insL {α : Type} [DecidableEq α] (y : α) (ys : List α) : List α := if y ∈ ys then ys else ys ++ [y]
theorem mem_insL {α : Type} [DecidableEq α] {y x : α} {ys : List α} : x ∈ insL y ys ↔ x = y ∨ x ∈ ys := by
  unfold insL; split
  · next h => constructor
              · exact .inr
              · rintro (rfl | h') <;> assumption
  · simp [or_comm]
theorem nodup_insL {α : Type} [DecidableEq α] {y : α} {ys : List α} (h : ys.Nodup) : (insL y ys).Nodup := by
  unfold insL; split
  · exact h
  · next hy => rw [List.nodup_append]; exact ⟨h, by simp, by rintro a ha b hb rfl; simp at hb; subst hb; exact hy ha⟩


theorem findIdx_none {α : Type} [DecidableEq α] {x : α} {ys : List α} : ys.findIdx? (fun y => decide (x = y)) = none ↔ x ∉ ys := by
  rw [List.findIdx?_eq_none_iff]; simp only [decide_eq_false_iff_not]
  constructor
  · intro h hx; exact h x hx rfl
  · rintro h y hy rfl; exact h hy
theorem findIdx_mem {α : Type} [DecidableEq α] {x : α} {ys : List α} {i : Nat} (h : ys.findIdx? (fun y => decide (x = y)) = some i) : ys[i]? = some x ∧ x ∈ ys := by
  obtain ⟨h1, h2, _⟩ := List.findIdx?_eq_some_iff_getElem.1 h
  simp only [decide_eq_true_eq] at h2
  exact ⟨by rw [List.getElem?_eq_getElem h1, h2], by rw [h2]; exact List.getElem_mem _⟩

theorem run_getMap {w : World} {b : Nat} {es : Array MapEntry} {clock : Nat} (h : w.heap[b]? = some (.map es clock)) : (getObj b).run Try.prog w = .ok (.map es clock) w := by
  simp [getObj, Sem.run, h]
theorem map_erase {β γ : Type} (f : β → γ) : ∀ (l : List β) (i : Nat), (l.eraseIdx i).map f = (l.map f).eraseIdx i
  | [], _ => rfl
  | _ :: _, 0 => rfl
  | x :: l, i + 1 => by simp [map_erase f l i]
/-- block b is another one now -/
def putB (w : World) (b : Nat) (o : Obj) : World := { w with heap := w.heap.setIfInBounds b o }
theorem run_setMap {w : World} {b : Nat} {es : Array MapEntry} {clock : Nat} (h : w.heap[b]? = some (.map es clock)) (o : Obj) : (setObj b o).run Try.prog w = .ok () (putB w b o) := by
  simp [setObj, Sem.run, h, putB]
theorem putB_grown (w : World) (b : Nat) (o : Obj) : w.grownBy (putB w b o) (some b) :=
  ⟨rfl, rfl, rfl, by simp [putB], fun k hk hne => by simp only [putB]; rw [Array.getElem?_setIfInBounds_ne]; intro e; exact hne (by rw [e])⟩
theorem putB_at {w : World} {b : Nat} {o o' : Obj} (h : w.heap[b]? = some o) : (putB w b o').heap[b]? = some o' := by
  have := (Array.getElem?_eq_some_iff.1 h).1
  simp [putB, this]
theorem putB_size (w : World) (b : Nat) (o : Obj) : (putB w b o).heap.size = w.heap.size := by simp [putB]

section
variable {K T : TypeId} {α : Type} [DecidableEq α] {enc : α → Value} (L : KeyLaw K enc) (hT : Try.prog.underlying T = some (.map K 78))
include L hT

theorem run_lookS {w : World} {b : Nat} {ys : List α} (hs : SetAt w b (ys.map enc)) (y : α) :
    (Instr.lookup T (.map (some b)) (enc y) true).run Try.prog w = .ok (.tuple #[.agg #[], .bool (decide (y ∈ ys))]) w := by
  obtain ⟨es, clock, hb, hk, hv, hn⟩ := hs
  have hz : ∀ w, (zeroValue 78).run Try.prog w = .ok (.agg #[]) w := Try.zeroValue78
  unfold Instr.lookup
  simp only [Sem.run_bind, run_underlying hT, Result.andThen_ok, run_getMap hb, Sem.run_pure, L.check, L.find y es.toList ys w hk]
  cases hf : ys.findIdx? (fun z => decide (y = z)) with
  | none =>
    have := findIdx_none.1 hf
    simp [this, hz]
  | some i =>
    have hmem := (findIdx_mem hf).2
    have hi : i < es.size := by
      have h1 := (List.findIdx?_eq_some_iff_getElem.1 hf).1
      have h2 := congrArg List.length hk
      simp at h2; omega
    have hval : (es.toList.map (·.val)).getD i undef = .agg #[] := by
      have := (hv (es.toList[i]'(by simpa using hi)) (List.getElem_mem _)).1
      rw [List.getD_eq_getElem?_getD, List.getElem?_map, List.getElem?_eq_getElem (by simpa using hi)]
      simpa using this
    simp only [Option.map_some, hval, hmem, decide_true, if_true]
    rfl

theorem run_putS {w : World} {b : Nat} {ys : List α} (hs : SetAt w b (ys.map enc)) (y : α) :
    ∃ w', (Instr.mapUpdate T (.map (some b)) (enc y) (.agg #[])).run Try.prog w = .ok () w' ∧ SetAt w' b ((insL y ys).map enc) ∧ w.grownBy w' (some b) ∧ w'.heap.size = w.heap.size := by
  obtain ⟨es, clock, hb, hk, hv, hn⟩ := hs
  have hrun : (Instr.mapUpdate T (.map (some b)) (enc y) (.agg #[])).run Try.prog w =
      match ys.findIdx? (fun z => decide (y = z)) with
      | some i => .ok () (putB w b (.map (es.modify i fun e => { e with key := enc y, val := .agg #[] }) clock))
      | none => .ok () (putB w b (.map (es.push { key := enc y, val := .agg #[], born := clock }) (clock + 1))) := by
    unfold Instr.mapUpdate
    simp only [Sem.run_bind, run_underlying hT, Result.andThen_ok, run_getMap hb, L.check, L.find y es.toList ys w hk]
    cases hf : ys.findIdx? (fun z => decide (y = z)) with
    | none => simp [run_setMap hb]
    | some i =>
      obtain ⟨h1, _⟩ := findIdx_mem hf
      have hkey : ((es[i]?).map (·.key)).getD (enc y) = enc y := by
        have : (es.toList.map (·.key))[i]? = some (enc y) := by rw [hk, List.getElem?_map, h1]; rfl
        rw [List.getElem?_map, Array.getElem?_toList] at this
        rw [this]; rfl
      simp only [Option.map_some, hkey, Instr.keyThatStays, L.same, if_true, Sem.run_pure, Sem.run_bind, Result.andThen_ok, run_setMap hb]
  rw [hrun]
  cases hf : ys.findIdx? (fun z => decide (y = z)) with
  | none =>
    have hy := findIdx_none.1 hf
    refine ⟨_, rfl, ⟨_, _, putB_at hb, ?_, ?_, ?_⟩, putB_grown _ _ _, putB_size _ _ _⟩
    · simp [insL, hy, hk]
    · intro e he
      simp only [Array.toList_push, List.mem_append, List.mem_singleton] at he
      rcases he with he | rfl
      · exact ⟨(hv e he).1, by have := (hv e he).2; omega⟩
      · exact ⟨rfl, by simp⟩
    · simp only [Array.toList_push, List.map_append, List.map_cons, List.map_nil]
      rw [List.nodup_append]
      refine ⟨hn, by simp, ?_⟩
      rintro a ha c hc rfl
      obtain ⟨e, he, rfl⟩ := List.mem_map.1 ha
      have := (hv e he).2
      simp at hc; omega
  | some i =>
    obtain ⟨h1, h2⟩ := findIdx_mem hf
    have hsame : es.modify i (fun e => { e with key := enc y, val := .agg #[] }) = es := by
      apply Array.ext
      · simp
      · intro j hj1 hj2
        rw [Array.getElem_modify]
        split
        · next hij =>
          subst hij
          have hk' : (es.toList.map (·.key))[i]? = some (enc y) := by rw [hk, List.getElem?_map, h1]; rfl
          rw [List.getElem?_map, Array.getElem?_toList, Array.getElem?_eq_getElem hj2] at hk'
          simp only [Option.map_some, Option.some.injEq] at hk'
          have hv' := (hv es[i] (by simp)).1
          generalize es[i] = x at hk' hv'
          cases x
          simp only at hk' hv'
          subst hk'; subst hv'; rfl
        · rfl
    refine ⟨_, rfl, ⟨_, _, putB_at hb, ?_, ?_, ?_⟩, putB_grown _ _ _, putB_size _ _ _⟩
    · rw [hsame]; simp [insL, h2, hk]
    · rw [hsame]; exact hv
    · rw [hsame]; exact hn

theorem run_delS {w : World} {b : Nat} {ys : List α} (hs : SetAt w b (ys.map enc)) (y : α) (ty : TypeId) :
    ∃ w', (Builtin.delete_ #[T, K] ty #[.map (some b), enc y]).run Try.prog w = .ok (.tuple #[]) w' ∧ SetAt w' b ((ys.erase y).map enc) ∧ w.grownBy w' (some b) ∧ w'.heap.size = w.heap.size := by
  obtain ⟨es, clock, hb, hk, hv, hn⟩ := hs
  have hrun : (Builtin.delete_ #[T, K] ty #[.map (some b), enc y]).run Try.prog w =
      match ys.findIdx? (fun z => decide (y = z)) with
      | some i => .ok (.tuple #[]) (putB w b (.map (es.eraseIdxIfInBounds i) clock))
      | none => .ok (.tuple #[]) (putB w b (.map es clock)) := by
    unfold Builtin.delete_
    simp only [List.getElem?_toArray, List.getElem?_cons_zero, List.getElem?_cons_succ, Sem.run_bind, run_underlying hT, Result.andThen_ok, run_getMap hb, L.check, L.find y es.toList ys w hk]
    cases hf : ys.findIdx? (fun z => decide (y = z)) with
    | none => simp [run_setMap hb]
    | some i => simp [run_setMap hb]
  rw [hrun]
  cases hf : ys.findIdx? (fun z => decide (y = z)) with
  | none =>
    have hy := findIdx_none.1 hf
    refine ⟨_, rfl, ⟨_, _, putB_at hb, ?_, hv, hn⟩, putB_grown _ _ _, putB_size _ _ _⟩
    rw [List.erase_of_not_mem hy]; exact hk
  | some i =>
    have hi : i < es.size := by
      have h1 := (List.findIdx?_eq_some_iff_getElem.1 hf).1
      have h2 := congrArg List.length hk
      simp at h2; omega
    have hl : (es.eraseIdxIfInBounds i).toList = es.toList.eraseIdx i := by
      rw [Array.eraseIdxIfInBounds, dif_pos hi, Array.toList_eraseIdx]
    have he : ys.erase y = ys.eraseIdx i := by
      rw [List.erase_eq_eraseIdx]
      have : ys.idxOf? y = some i := by
        have hfe : (fun z => z == y) = (fun z => decide (y = z)) := by funext z; rw [Bool.eq_iff_iff, beq_iff_eq, decide_eq_true_eq]; exact ⟨Eq.symm, Eq.symm⟩
        show ys.findIdx? (fun z => z == y) = some i
        rw [hfe]; exact hf
      simp only [this]
    refine ⟨_, rfl, ⟨_, _, putB_at hb, ?_, ?_, ?_⟩, putB_grown _ _ _, putB_size _ _ _⟩
    · rw [hl, he, map_erase, hk, map_erase]
    · intro e hm; rw [hl] at hm; exact hv e (List.mem_of_mem_eraseIdx hm)
    · rw [hl]; exact hn.sublist ((List.eraseIdx_sublist _ _).map _)
end

theorem run_lenS {T K : TypeId} (hT : Try.prog.underlying T = some (.map K 78)) {w : World} {b : Nat} {ks : List Value} (hs : SetAt w b ks) (ty : TypeId) :
    (Builtin.len_ #[T] ty #[.map (some b)]).run Try.prog w = .ok (.int .i64 ks.length) w := by
  obtain ⟨es, clock, hb, hk, hv, hn⟩ := hs
  have : es.size = ks.length := by rw [← hk]; simp
  unfold Builtin.len_
  simp [run_underlying hT, run_getMap hb, goInt, this]

end Go.Proofs.Ytdlcpmjhngfgkaa

namespace Go.Proofs.Ytdlcpmjhngfgkaa
open Go.RowKit

theorem nodup_map_inj {β γ : Type} {f : β → γ} : ∀ {l : List β}, (l.map f).Nodup → ∀ {x y : β}, x ∈ l → y ∈ l → f x = f y → x = y
  | [], _, _, _, hx, _, _ => by cases hx
  | a :: l, hn, x, y, hx, hy, e => by
    rw [List.map_cons, List.nodup_cons] at hn
    rcases List.mem_cons.1 hx with rfl | hx'
    · rcases List.mem_cons.1 hy with rfl | hy'
      · rfl
      · exact (hn.1 (by rw [e]; exact List.mem_map_of_mem hy')).elim
    · rcases List.mem_cons.1 hy with rfl | hy'
      · exact (hn.1 (by rw [← e]; exact List.mem_map_of_mem hx')).elim
      · exact nodup_map_inj hn.2 hx' hy' e

section
variable {α : Type} [DecidableEq α] {enc : α → Value}

/-- block r is a walk over the map at block b, whose keys are ys; left: those that have not come -/
def IterAt (enc : α → Value) (w : World) (r b : Nat) (ys left : List α) : Prop :=
  ∃ es clock seen, w.heap[b]? = some (.map es clock) ∧ es.toList.map (·.key) = ys.map enc ∧ (∀ e ∈ es.toList, e.val = .agg #[] ∧ e.born < clock) ∧ (es.toList.map (·.born)).Nodup ∧
    w.heap[r]? = some (.mapIter (some b) clock seen clock) ∧ (es.toList.filter (fun e => !seen.contains e.born)).map (·.key) = left.map enc

omit [DecidableEq α] in
theorem IterAt.set {w : World} {r b : Nat} {ys left : List α} (h : IterAt enc w r b ys left) : SetAt w b (ys.map enc) := by
  obtain ⟨es, clock, seen, h1, h2, h3, h4, _⟩ := h; exact ⟨es, clock, h1, h2, h3, h4⟩

omit [DecidableEq α] in
theorem IterAt.kept {w w' : World} {r b : Nat} {ys left : List α} (h : IterAt enc w r b ys left) (hb : w'.heap[b]? = w.heap[b]?) (hr : w'.heap[r]? = w.heap[r]?) : IterAt enc w' r b ys left := by
  obtain ⟨es, clock, seen, h1, h2, h3, h4, h5, h6⟩ := h; exact ⟨es, clock, seen, hb.trans h1, h2, h3, h4, hr.trans h5, h6⟩

omit [DecidableEq α] in
theorem run_rangeS {T K : TypeId} (hT : Try.prog.underlying T = some (.map K 78)) {w : World} {b : Nat} {ys : List α} (hs : SetAt w b (ys.map enc)) :
    ∃ w', (Instr.range T (.map (some b))).run Try.prog w = .ok (.pointer (some ⟨w.heap.size, 0, none⟩)) w' ∧ IterAt enc w' w.heap.size b ys ys ∧ w.grownBy w' none ∧ w'.heap.size = w.heap.size + 1 := by
  obtain ⟨es, clock, hb, hk, hv, hn⟩ := hs
  have hrun : (Instr.range T (.map (some b))).run Try.prog w = .ok (.pointer (some ⟨w.heap.size, 0, none⟩)) (w.alloc (.mapIter (some b) clock #[] clock)) := by
    unfold Instr.range
    simp only [Sem.run_bind, run_underlying hT, Result.andThen_ok, run_getMap hb, Sem.run_pure]
    rfl
  refine ⟨_, hrun, ⟨es, clock, #[], heap_old _ _ hb, hk, hv, hn, heap_new _ _, ?_⟩, ⟨rfl, rfl, rfl, by simp, fun k hk _ => Below.heap_alloc _ _ _ hk⟩, by simp⟩
  rw [List.filter_eq_self.2 (by simp)]; exact hk

omit [DecidableEq α] in
theorem map_filter_two {p : MapEntry → Bool} {q : α → Bool} : ∀ (l : List MapEntry) (m : List α), l.map (·.key) = m.map enc → (∀ x ∈ l, ∀ a, x.key = enc a → p x = q a) → (l.filter p).map (·.key) = (m.filter q).map enc
  | [], [], _, _ => rfl
  | x :: l, a :: m, h, hp => by
    simp only [List.map_cons, List.cons.injEq] at h
    have ih := map_filter_two l m h.2 (fun z hz b hb => hp z (List.mem_cons_of_mem _ hz) b hb)
    have hx := hp x List.mem_cons_self a h.1
    rw [List.filter_cons, List.filter_cons, hx]
    split
    · rw [List.map_cons, List.map_cons, ih, h.1]
    · exact ih
  | [], _ :: _, h, _ => by simp at h
  | _ :: _, [], h, _ => by simp at h

theorem nodup_map_enc {β γ : Type} {f : β → γ} (hf : ∀ x y, f x = f y → x = y) : ∀ {l : List β}, l.Nodup → (l.map f).Nodup
  | [], _ => by simp
  | a :: l, h => by
    rw [List.nodup_cons] at h
    rw [List.map_cons, List.nodup_cons]
    refine ⟨fun hm => ?_, nodup_map_enc hf h.2⟩
    obtain ⟨b, hb, e⟩ := List.mem_map.1 hm
    exact h.1 (hf _ _ e ▸ hb)

theorem filter_push {es : List MapEntry} {seen : Array Nat} {e : MapEntry} (hn : (es.map (·.born)).Nodup) (he : e ∈ es) (left : List α) (hl : (es.filter (fun e => !seen.contains e.born)).map (·.key) = left.map enc)
    (hinj : ∀ x y, enc x = enc y → x = y) (hleft : left.Nodup) (y : α) (hy : e.key = enc y) (hse : seen.contains e.born = false) :
    (es.filter (fun x => !(seen.push e.born).contains x.born)).map (·.key) = (left.erase y).map enc := by
  have h1 : es.filter (fun x => !(seen.push e.born).contains x.born) = (es.filter (fun x => !seen.contains x.born)).filter (fun x => decide (x.born ≠ e.born)) := by
    rw [List.filter_filter]
    apply List.filter_congr
    intro x _
    rw [Bool.eq_iff_iff]
    simp only [Array.contains_push, Bool.not_or, Bool.and_eq_true, Bool.not_eq_true', decide_eq_true_eq, beq_eq_false_iff_ne, ne_eq]
    exact and_comm
  rw [h1, hleft.erase_eq_filter]
  generalize hL : es.filter (fun x => !seen.contains x.born) = Lf at hl ⊢
  have hsub : ∀ x ∈ Lf, x ∈ es := fun x hx => by rw [← hL] at hx; exact (List.mem_filter.1 hx).1
  have heL : e ∈ Lf := by rw [← hL]; exact List.mem_filter.2 ⟨he, by simp only [hse]; rfl⟩
  clear hL h1
  -- by the keys of Lf being apart
  have hkn : (Lf.map (·.key)).Nodup := by
    rw [hl]; exact nodup_map_enc hinj hleft
  refine map_filter_two Lf left hl (fun x hx a ha => ?_)
  rw [Bool.eq_iff_iff, decide_eq_true_eq, bne_iff_ne]
  constructor
  · rintro hb rfl
    exact hb (by rw [nodup_map_inj hkn hx heL (by rw [ha, hy])])
  · intro hay hb
    have := nodup_map_inj hn (hsub x hx) he hb
    subst this
    exact hay (hinj _ _ (by rw [← ha, ← hy]))

theorem run_nextS {w : World} {r b : Nat} {ys left : List α} (h : IterAt enc w r b ys left) (hinj : ∀ x y, enc x = enc y → x = y) (hleft : left.Nodup) (ty : TypeId) :
    (left = [] ∧ (Instr.next (.pointer (some ⟨r, 0, none⟩)) false ty).run Try.prog w = .ok (.tuple #[.bool false]) w) ∨
    (∃ y w', y ∈ left ∧ (Instr.next (.pointer (some ⟨r, 0, none⟩)) false ty).run Try.prog w = .ok (.tuple #[.bool true, enc y, .agg #[]]) w' ∧ IterAt enc w' r b ys (left.erase y) ∧ w.grownBy w' (some r) ∧ w'.heap.size = w.heap.size ∧
      (Instr.entry (.pointer (some ⟨r, 0, none⟩))).run Try.prog w' = .ok (.tuple #[enc y, .agg #[]]) w') := by
  obtain ⟨es, clock, seen, hb, hk, hv, hn, hr, hl⟩ := h
  have hg : (getObj r).run Try.prog w = .ok (.mapIter (some b) clock seen clock) w := by simp [getObj, Sem.run, hr]
  have hgb := run_getMap hb
  have hcond : (!seen.isEmpty && !es.isEmpty && es.all (fun e => decide (e.born ≥ clock))) = false := by
    cases hes : es.isEmpty with
    | true => simp
    | false =>
      have h0 : 0 < es.size := by rw [Array.isEmpty_eq_false_iff] at hes; exact Array.size_pos_iff.2 hes
      have : es.all (fun e => decide (e.born ≥ clock)) = false := by
        rw [Array.all_eq_false]
        refine ⟨0, h0, ?_⟩
        have := (hv es[0] (by simp)).2
        simp; omega
      simp [this]
  obtain ⟨Lf, hLf⟩ : ∃ Lf, es.filter (fun e => !seen.contains e.born) = Lf := ⟨_, rfl⟩
  have hLl : Lf.toList = es.toList.filter (fun e => !seen.contains e.born) := by rw [← hLf, Array.toList_filter]
  have hold : Lf.filter (fun e => decide (e.born < clock)) = Lf := by
    rw [Array.filter_eq_self]
    intro e he
    have : e ∈ es.toList := by rw [← Array.mem_toList_iff, hLl] at he; exact (List.mem_filter.1 he).1
    simpa using (hv e this).2
  have hnew : Lf.filter (fun e => decide (e.born ≥ clock)) = #[] := by
    rw [Array.filter_eq_empty_iff]
    intro e he
    have : e ∈ es.toList := by rw [← Array.mem_toList_iff, hLl] at he; exact (List.mem_filter.1 he).1
    have := (hv e this).2
    simp; omega
  have hch : ∀ n : Nat, 0 < n → ∃ i w1, (choose (.mapNext n)).run Try.prog w = .ok i w1 ∧ i < n ∧ w1.heap = w.heap ∧ w.grownBy w1 none := fun n hn0 => by
    by_cases h1 : n ≤ 1
    · exact ⟨0, w, by simp [choose, Sem.run, Question.forced, h1], hn0, rfl, ⟨rfl, rfl, rfl, Nat.le_refl _, fun _ _ _ => rfl⟩⟩
    · exact ⟨(w.tape w.drawn (.mapNext n)) % n, w.drew, by simp [Question.forced, h1, Question.cut], Nat.mod_lt _ hn0, rfl, ⟨rfl, rfl, rfl, Nat.le_refl _, fun _ _ _ => rfl⟩⟩
  unfold Instr.next
  simp only [Sem.run_bind, hg, hgb, Result.andThen_ok, hcond, hLf, hold, hnew, Bool.false_eq_true, if_false, Array.append_empty]
  by_cases hE : Lf.isEmpty = true
  · left
    have hL0 : Lf = #[] := by simpa using hE
    refine ⟨?_, ?_⟩
    · rw [← hLl, hL0] at hl; simpa using hl.symm
    · obtain ⟨i, w1, hc, hi, _, _⟩ := hch 1 (by decide)
      have hc1 : (choose (.mapNext 1)).run Try.prog w = .ok 0 w := by simp [choose, Sem.run, Question.forced]
      have hs1 : ((if (#[] : Array MapEntry).isEmpty = true then #[none] else #[]) ++ Array.map some (#[] : Array MapEntry)) = #[none] := by simp
      rw [hL0, hs1]
      show ((choose (.mapNext 1)).run Try.prog w).andThen _ = _
      rw [hc1]; rfl
  · right
    have hpos : 0 < Lf.size := by
      rcases Nat.eq_zero_or_pos Lf.size with h0 | h0
      · exact (hE (by simpa using h0)).elim
      · exact h0
    obtain ⟨i, w1, hc, hi, hh, hg1⟩ := hch Lf.size hpos
    have hmem : Lf[i] ∈ es.toList.filter (fun e => !seen.contains e.born) := by rw [← hLl]; simp
    obtain ⟨hmem1, hmem2⟩ := List.mem_filter.1 hmem
    obtain ⟨y, hyl, hy⟩ : ∃ y, y ∈ left ∧ enc y = Lf[i].key := by
      have : Lf[i].key ∈ left.map enc := by rw [← hl]; exact List.mem_map_of_mem hmem
      obtain ⟨y, h1, h2⟩ := List.mem_map.1 this; exact ⟨y, h1, h2⟩
    have hval := (hv _ hmem1).1
    have hr1 : w1.heap[r]? = some (.mapIter (some b) clock seen clock) := by rw [hh]; exact hr
    have hset : (setObj r (.mapIter (some b) clock (seen.push Lf[i].born) clock)).run Try.prog w1 = .ok () (putB w1 r (.mapIter (some b) clock (seen.push Lf[i].born) clock)) := by
      simp [setObj, Sem.run, hr1, putB]
    have hrb : r ≠ b := by rintro rfl; rw [hr] at hb; cases hb
    refine ⟨y, putB w1 r (.mapIter (some b) clock (seen.push Lf[i].born) clock), hyl, ?_, ?_, ?_, ?_, ?_⟩
    · have hs1 : ((if Lf.isEmpty = true then #[none] else #[]) ++ Array.map some Lf) = Array.map some Lf := by simp [hE]
      rw [hs1, Array.size_map, hc, Result.andThen_ok, Array.getElem?_map, Array.getElem?_eq_getElem hi]
      simp only [Option.map_some, Sem.run_bind, hset, Result.andThen_ok, Sem.run_pure, hval, hy]
    · refine ⟨es, clock, seen.push Lf[i].born, ?_, hk, hv, hn, putB_at hr1, ?_⟩
      · rw [(putB_grown w1 r _).block b (by rw [hh]; exact (Array.getElem?_eq_some_iff.1 hb).1) (by simpa using fun e => hrb e.symm), hh]; exact hb
      · exact filter_push hn hmem1 left hl hinj hleft y hy.symm (by simpa using hmem2)
    · refine ⟨hg1.os, hg1.tape, hg1.output, ?_, fun k hk hne => ?_⟩
      · rw [putB_size, hh]; exact Nat.le_refl _
      · rw [(putB_grown w1 r _).block k (by rw [hh]; exact hk) hne, hh]
    · rw [putB_size, hh]
    · have hb2 : (putB w1 r (.mapIter (some b) clock (seen.push Lf[i].born) clock)).heap[b]? = some (.map es clock) := by
        rw [(putB_grown w1 r _).block b (by rw [hh]; exact (Array.getElem?_eq_some_iff.1 hb).1) (by simpa using fun e => hrb e.symm), hh]; exact hb
      have hr2 := putB_at (o' := Obj.mapIter (some b) clock (seen.push Lf[i].born) clock) hr1
      generalize putB w1 r (.mapIter (some b) clock (seen.push Lf[i].born) clock) = W at hb2 hr2
      have hg2 : (getObj r).run Try.prog W = .ok (.mapIter (some b) clock (seen.push Lf[i].born) clock) W := by simp [getObj, Sem.run, hr2]
      have hfind : es.find? (fun e => e.born == Lf[i].born) = some Lf[i] := by
        rw [← Array.find?_toList]
        have h1 : ∃ x ∈ es.toList, (x.born == Lf[i].born) = true := ⟨_, hmem1, by simp⟩
        cases hf : es.toList.find? (fun e => e.born == Lf[i].born) with
        | none =>
          have := List.find?_eq_none.1 hf _ hmem1
          simp at this
        | some z =>
          have h2 := List.find?_some hf
          have h3 := List.mem_of_find?_eq_some hf
          rw [nodup_map_inj hn h3 hmem1 (by simpa using h2)]
      unfold Instr.entry
      simp only [Sem.run_bind, hg2, Result.andThen_ok, Array.back?_push, run_getMap hb2, bne_self_eq_false, Bool.false_eq_true, if_false, hfind, Sem.run_pure, hval, hy]

/-! ### at the walk -/
variable {K T : TypeId} (L : KeyLaw K enc) (hT : Try.prog.underlying T = some (.map K 78))
variable {w : World} {ops : Array Oper} {rest : List Oper} {o : Oper} {a : Act} {Q : Exit → Act → World → Prop}

include L hT in
theorem wpList_lookS (hgd : o.guard = none) (m x : Operand) (hop : o.op = .lookup T m x true) (b : Nat) (ys : List α) (y : α) (hm : a.eval m = .map (some b)) (hx : a.eval x = enc y) (hs : SetAt w b (ys.map enc))
    (h : wpList Try.prog ops Q rest (a.put o.dst (.tuple #[.agg #[], .bool (decide (y ∈ ys))])) w) : wpList Try.prog ops Q (o :: rest) a w := by
  refine wpList_plain hgd fun K' hK' => ?_
  have hrun := run_lookS L hT hs y
  unfold Oper.wp
  simp [execOp, hop, hm, hx, hrun, Result.andThen]
  exact hK' _ _ h

include L hT in
theorem wpList_putS (hgd : o.guard = none) (m x v : Operand) (hop : o.op = .mapUpdate T m x v) (b : Nat) (ys : List α) (y : α) (hm : a.eval m = .map (some b)) (hx : a.eval x = enc y) (hv : a.eval v = .agg #[]) (hs : SetAt w b (ys.map enc))
    (h : ∀ w', SetAt w' b ((insL y ys).map enc) → w.grownBy w' (some b) → w'.heap.size = w.heap.size → wpList Try.prog ops Q rest (a.put o.dst undef) w') : wpList Try.prog ops Q (o :: rest) a w := by
  refine wpList_plain hgd fun K' hK' => ?_
  obtain ⟨w', hrun, h1, h2, h3⟩ := run_putS L hT hs y
  unfold Oper.wp
  simp [execOp, hop, hm, hx, hv, hrun, Result.andThen]
  exact hK' _ _ (h w' h1 h2 h3)

include L hT in
theorem wpList_delS (hgd : o.guard = none) (m x : Operand) (hop : o.op = .call { callee := .builtin .delete, args := #[m, x], argTypes := #[T, K] }) (b : Nat) (ys : List α) (y : α) (hm : a.eval m = .map (some b)) (hx : a.eval x = enc y) (hs : SetAt w b (ys.map enc))
    (h : ∀ w', SetAt w' b ((ys.erase y).map enc) → w.grownBy w' (some b) → w'.heap.size = w.heap.size → wpList Try.prog ops Q rest (a.put o.dst (.tuple #[])) w') : wpList Try.prog ops Q (o :: rest) a w := by
  refine wpList_plain hgd fun K' hK' => ?_
  obtain ⟨w', hrun, h1, h2, h3⟩ := run_delS L hT hs y o.type
  unfold Oper.wp
  simp [execOp, hop, resolve, invoke, builtin, hm, hx, hrun, Result.andThen]
  exact hK' _ _ (h w' h1 h2 h3)

include hT in
theorem wpList_lenS (hgd : o.guard = none) (m : Operand) (hop : o.op = .call { callee := .builtin .len, args := #[m], argTypes := #[T] }) (b : Nat) (ks : List Value) (hm : a.eval m = .map (some b)) (hs : SetAt w b ks)
    (h : wpList Try.prog ops Q rest (a.put o.dst (.int .i64 ks.length)) w) : wpList Try.prog ops Q (o :: rest) a w := by
  refine wpList_plain hgd fun K' hK' => ?_
  have hrun := run_lenS hT hs o.type
  unfold Oper.wp
  simp [execOp, hop, resolve, invoke, builtin, hm, hrun, Result.andThen]
  exact hK' _ _ h

omit [DecidableEq α] in
include hT in
theorem wpList_rangeS (hgd : o.guard = none) (m : Operand) (hop : o.op = .range T m) (b : Nat) (ys : List α) (hm : a.eval m = .map (some b)) (hs : SetAt w b (ys.map enc))
    (h : ∀ w', IterAt enc w' w.heap.size b ys ys → w.grownBy w' none → w'.heap.size = w.heap.size + 1 → wpList Try.prog ops Q rest (a.put o.dst (.pointer (some ⟨w.heap.size, 0, none⟩))) w') : wpList Try.prog ops Q (o :: rest) a w := by
  refine wpList_plain hgd fun K' hK' => ?_
  obtain ⟨w', hrun, h1, h2, h3⟩ := run_rangeS (enc := enc) hT hs
  unfold Oper.wp
  simp [execOp, hop, hm, hrun, Result.andThen]
  exact hK' _ _ (h w' h1 h2 h3)

theorem wpList_nextS (hgd : o.guard = none) (m : Operand) (hop : o.op = .next m false) (r b : Nat) (ys left : List α) (hinj : ∀ x y, enc x = enc y → x = y) (hleft : left.Nodup) (hm : a.eval m = .pointer (some ⟨r, 0, none⟩)) (hs : IterAt enc w r b ys left)
    (h0 : left = [] → wpList Try.prog ops Q rest (a.put o.dst (.tuple #[.bool false])) w)
    (h : ∀ y w', y ∈ left → IterAt enc w' r b ys (left.erase y) → w.grownBy w' (some r) → w'.heap.size = w.heap.size →
      (Instr.entry (.pointer (some ⟨r, 0, none⟩))).run Try.prog w' = .ok (.tuple #[enc y, .agg #[]]) w' → wpList Try.prog ops Q rest (a.put o.dst (.tuple #[.bool true, enc y, .agg #[]])) w') : wpList Try.prog ops Q (o :: rest) a w := by
  refine wpList_plain hgd fun K' hK' => ?_
  rcases run_nextS hs hinj hleft o.type with ⟨hl, hrun⟩ | ⟨y, w', hy, hrun, h1, h2, h3, h4⟩
  · unfold Oper.wp
    simp [execOp, hop, hm, hrun, Result.andThen]
    exact hK' _ _ (h0 hl)
  · unfold Oper.wp
    simp [execOp, hop, hm, hrun, Result.andThen]
    exact hK' _ _ (h y w' hy h1 h2 h3 h4)

end
end Go.Proofs.Ytdlcpmjhngfgkaa
