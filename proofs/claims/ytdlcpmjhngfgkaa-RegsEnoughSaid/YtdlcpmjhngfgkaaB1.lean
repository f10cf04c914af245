import Derived.Test.YtdlcpmjhngfgkaaA4
namespace Go.Proofs.Ytdlcpmjhngfgkaa
open Go.RowKit

/-- block b is a map whose keys are ks, in the order in which they came, each with an empty struct -/
def SetAt (w : World) (b : Nat) (ks : List Value) : Prop :=
  ∃ es clock, w.heap[b]? = some (.map es clock) ∧ es.toList.map (·.key) = ks ∧ (∀ e ∈ es.toList, e.val = .agg #[] ∧ e.born < clock) ∧ (es.toList.map (·.born)).Nodup

/-- how keys of type K are told apart -/
structure KeyLaw (K : TypeId) {α : Type} [DecidableEq α] (enc : α → Value) : Prop where
  inj : ∀ x y, enc x = enc y → x = y
  check : ∀ e x w, (Instr.checkKey e 10000 K (enc x)).run Try.prog w = .ok () w
  find : ∀ x (es : List MapEntry) (ys : List α) w, es.map (·.key) = ys.map enc →
    (Instr.findKey K (enc x) es).run Try.prog w = .ok ((ys.findIdx? (fun y => decide (x = y))).map fun i => (i, (es.map (·.val)).getD i undef)) w
  same : ∀ x, Instr.sameBits 10000 (enc x) (enc x) = true

theorem findNow_int (x : Int) : ∀ (es : List MapEntry) (ys : List Int) (n : Nat), es.map (·.key) = ys.map (Value.int .i64) →
    Instr.findNow (.int .i64) (.int .i64 x) es n = some ((ys.findIdx? (fun y => decide (x = y))).map fun i => (n + i, (es.map (·.val)).getD i undef))
  | [], [], n, _ => by simp [Instr.findNow]
  | e :: es, y :: ys, n, h => by
    simp only [List.map_cons, List.cons.injEq] at h
    have ih := findNow_int x es ys (n + 1) h.2
    unfold Instr.findNow
    rw [h.1]
    by_cases hxy : x = y
    · subst hxy
      simp [Instr.sameNow, List.findIdx?_cons]
    · have h2 : (x == y) = false := by simp [hxy]
      simp only [Instr.sameNow, if_true, h2, ih, List.findIdx?_cons, hxy, decide_false]
      cases hf : List.findIdx? (fun y => decide (x = y)) ys with
      | none => simp
      | some i => simp; omega
  | [], _ :: _, _, h => by simp at h
  | _ :: _, [], _, h => by simp at h

theorem keyInt : KeyLaw 3 (Value.int .i64) where
  inj := by intro x y h; cases h; rfl
  check := fun e x w => by
    unfold Instr.checkKey
    simp [run_underlying Try.underlying3]
  find := fun x es ys w h => by
    unfold Instr.findKey
    simp [run_underlying Try.underlying3, findNow_int x es ys 0 h]
  same := fun x => by simp [Instr.sameBits]


def encPair (p : Int × Int) : Value := .agg #[.int .i64 p.1, .int .i64 p.2]

theorem equal_pair (p q : Int × Int) (w : World) : (Op.equal 67 (encPair p) (encPair q)).run Try.prog w = .ok (decide (p = q)) w := by
  unfold Op.equal Op.maxDepth encPair
  unfold Op.equalIn
  have e1 : ∀ (a b : Int) (w : World), (Op.equalIn 9999 3 (.int .i64 a) (.int .i64 b)).run Try.prog w = .ok (a == b) w := fun a b w => run_equalIn_int w 9998 3 .i64 .i64 a b Try.underlying3
  obtain ⟨p1, p2⟩ := p
  obtain ⟨q1, q2⟩ := q
  have hr : List.range' 0 2 = [0, 1] := rfl
  have ha : ∀ w, (isAgg 3).run Try.prog w = .ok false w := Try.isAgg3
  by_cases h1 : p1 = q1
  · by_cases h2 : p2 = q2
    · simp [run_underlying Try.underlying67, go_sem, hr, ha, e1, h1, h2]
    · simp [run_underlying Try.underlying67, go_sem, hr, ha, e1, h1, h2]
  · simp [run_underlying Try.underlying67, go_sem, hr, ha, e1, h1]


theorem encPair_inj (p q : Int × Int) (h : encPair p = encPair q) : p = q := by
  obtain ⟨p1, p2⟩ := p; obtain ⟨q1, q2⟩ := q
  simp [encPair] at h; simp [h]

theorem findAsking_pair (x : Int × Int) (w : World) : ∀ (es : List MapEntry) (ys : List (Int × Int)) (n : Nat), es.map (·.key) = ys.map encPair →
    (Instr.findAsking 67 (encPair x) es n).run Try.prog w = .ok ((ys.findIdx? (fun y => decide (x = y))).map fun i => (n + i, (es.map (·.val)).getD i undef)) w
  | [], [], n, _ => by simp [Instr.findAsking]
  | e :: es, y :: ys, n, h => by
    simp only [List.map_cons, List.cons.injEq] at h
    have ih := findAsking_pair x w es ys (n + 1) h.2
    unfold Instr.findAsking
    rw [h.1]
    by_cases hxy : x = y
    · subst hxy
      simp [equal_pair, List.findIdx?_cons]
    · simp only [Sem.run_bind, equal_pair, Result.andThen_ok, hxy, decide_false, Bool.false_eq_true, if_false, ih, List.findIdx?_cons]
      cases hf : List.findIdx? (fun y => decide (x = y)) ys with
      | none => simp
      | some i => simp; omega
  | [], _ :: _, _, h => by simp at h
  | _ :: _, [], _, h => by simp at h

theorem keyPair : KeyLaw 67 encPair where
  inj := encPair_inj
  check := fun e x w => by
    have hr : List.range' 0 2 = [0, 1] := rfl
    have ha : ∀ w, (isAgg 3).run Try.prog w = .ok false w := Try.isAgg3
    have c1 : ∀ (b : Int) (w : World), (Instr.checkKey e 9999 3 (.int .i64 b)).run Try.prog w = .ok () w := fun b w => by
      unfold Instr.checkKey
      simp [run_underlying Try.underlying3]
    obtain ⟨p1, p2⟩ := x
    unfold Instr.checkKey encPair
    simp [run_underlying Try.underlying67, go_sem, hr, ha, c1]
  find := fun x es ys w h => by
    unfold Instr.findKey
    cases es with
    | nil =>
      cases ys with
      | nil => simp [run_underlying Try.underlying67, Instr.findNow]
      | cons y ys => simp at h
    | cons e es =>
      have hn : Instr.findNow (.array 2 3) (encPair x) (e :: es) 0 = none := by
        unfold Instr.findNow; simp [Instr.sameNow]
      have := findAsking_pair x w (e :: es) ys 0 h
      simp [run_underlying Try.underlying67, hn, this]
  same := fun x => by
    obtain ⟨p1, p2⟩ := x
    simp [encPair, Instr.sameBits]

/-- y put in -/
def insL {α : Type} [DecidableEq α] (y : α) (ys : List α) : List α := if y ∈ ys then ys else ys ++ [y]
theorem mem_insL {α : Type} [DecidableEq α] {y x : α} {ys : List α} : x ∈ insL y ys ↔ x = y ∨ x ∈ ys := by
  unfold insL; split
  · next h => constructor
              · exact .inr
              · rintro (rfl | h') <;> assumption
  · simp [or_comm]
theorem nodup_insL {α : Type} [DecidableEq α] {y : α} {ys : List α} (h : ys.Nodup) : (insL y ys).Nodup := by
  unfold insL; split
  · exact h
  · next hy => rw [List.nodup_append]; exact ⟨h, by simp, by rintro a ha b hb rfl; simp at hb; subst hb; exact hy ha⟩


theorem findIdx_none {α : Type} [DecidableEq α] {x : α} {ys : List α} : ys.findIdx? (fun y => decide (x = y)) = none ↔ x ∉ ys := by
  rw [List.findIdx?_eq_none_iff]; simp only [decide_eq_false_iff_not]
  constructor
  · intro h hx; exact h x hx rfl
  · rintro h y hy rfl; exact h hy
theorem findIdx_mem {α : Type} [DecidableEq α] {x : α} {ys : List α} {i : Nat} (h : ys.findIdx? (fun y => decide (x = y)) = some i) : ys[i]? = some x ∧ x ∈ ys := by
  obtain ⟨h1, h2, _⟩ := List.findIdx?_eq_some_iff_getElem.1 h
  simp only [decide_eq_true_eq] at h2
  exact ⟨by rw [List.getElem?_eq_getElem h1, h2], by rw [h2]; exact List.getElem_mem _⟩

theorem run_getMap {w : World} {b : Nat} {es : Array MapEntry} {clock : Nat} (h : w.heap[b]? = some (.map es clock)) : (getObj b).run Try.prog w = .ok (.map es clock) w := by
  simp [getObj, Sem.run, h]
theorem map_erase {β γ : Type} (f : β → γ) : ∀ (l : List β) (i : Nat), (l.eraseIdx i).map f = (l.map f).eraseIdx i
  | [], _ => rfl
  | _ :: _, 0 => rfl
  | x :: l, i + 1 => by simp [map_erase f l i]
/-- block b is another one now -/
def putB (w : World) (b : Nat) (o : Obj) : World := { w with heap := w.heap.setIfInBounds b o }
theorem run_setMap {w : World} {b : Nat} {es : Array MapEntry} {clock : Nat} (h : w.heap[b]? = some (.map es clock)) (o : Obj) : (setObj b o).run Try.prog w = .ok () (putB w b o) := by
  simp [setObj, Sem.run, h, putB]
theorem putB_grown (w : World) (b : Nat) (o : Obj) : w.grownBy (putB w b o) (some b) :=
  ⟨rfl, rfl, rfl, by simp [putB], fun k hk hne => by simp only [putB]; rw [Array.getElem?_setIfInBounds_ne]; intro e; exact hne (by rw [e])⟩
theorem putB_at {w : World} {b : Nat} {o o' : Obj} (h : w.heap[b]? = some o) : (putB w b o').heap[b]? = some o' := by
  have := (Array.getElem?_eq_some_iff.1 h).1
  simp [putB, this]
theorem putB_size (w : World) (b : Nat) (o : Obj) : (putB w b o).heap.size = w.heap.size := by simp [putB]

section
variable {K T : TypeId} {α : Type} [DecidableEq α] {enc : α → Value} (L : KeyLaw K enc) (hT : Try.prog.underlying T = some (.map K 78))
include L hT

theorem run_lookS {w : World} {b : Nat} {ys : List α} (hs : SetAt w b (ys.map enc)) (y : α) :
    (Instr.lookup T (.map (some b)) (enc y) true).run Try.prog w = .ok (.tuple #[.agg #[], .bool (decide (y ∈ ys))]) w := by
  obtain ⟨es, clock, hb, hk, hv, hn⟩ := hs
  have hz : ∀ w, (zeroValue 78).run Try.prog w = .ok (.agg #[]) w := Try.zeroValue78
  unfold Instr.lookup
  simp only [Sem.run_bind, run_underlying hT, Result.andThen_ok, run_getMap hb, Sem.run_pure, L.check, L.find y es.toList ys w hk]
  cases hf : ys.findIdx? (fun z => decide (y = z)) with
  | none =>
    have := findIdx_none.1 hf
    simp [this, hz]
  | some i =>
    have hmem := (findIdx_mem hf).2
    have hi : i < es.size := by
      have h1 := (List.findIdx?_eq_some_iff_getElem.1 hf).1
      have h2 := congrArg List.length hk
      simp at h2; omega
    have hval : (es.toList.map (·.val)).getD i undef = .agg #[] := by
      have := (hv (es.toList[i]'(by simpa using hi)) (List.getElem_mem _)).1
      rw [List.getD_eq_getElem?_getD, List.getElem?_map, List.getElem?_eq_getElem (by simpa using hi)]
      simpa using this
    simp only [Option.map_some, hval, Sem.run_pure, Result.andThen_ok, hmem, decide_true, if_true]
    rfl

theorem run_putS {w : World} {b : Nat} {ys : List α} (hs : SetAt w b (ys.map enc)) (y : α) :
    ∃ w', (Instr.mapUpdate T (.map (some b)) (enc y) (.agg #[])).run Try.prog w = .ok () w' ∧ SetAt w' b ((insL y ys).map enc) ∧ w.grownBy w' (some b) ∧ w'.heap.size = w.heap.size := by
  obtain ⟨es, clock, hb, hk, hv, hn⟩ := hs
  have hrun : (Instr.mapUpdate T (.map (some b)) (enc y) (.agg #[])).run Try.prog w =
      match ys.findIdx? (fun z => decide (y = z)) with
      | some i => .ok () (putB w b (.map (es.modify i fun e => { e with key := enc y, val := .agg #[] }) clock))
      | none => .ok () (putB w b (.map (es.push { key := enc y, val := .agg #[], born := clock }) (clock + 1))) := by
    unfold Instr.mapUpdate
    simp only [Sem.run_bind, run_underlying hT, Result.andThen_ok, run_getMap hb, L.check, L.find y es.toList ys w hk]
    cases hf : ys.findIdx? (fun z => decide (y = z)) with
    | none => simp [run_setMap hb]
    | some i =>
      obtain ⟨h1, _⟩ := findIdx_mem hf
      have hkey : ((es[i]?).map (·.key)).getD (enc y) = enc y := by
        have : (es.toList.map (·.key))[i]? = some (enc y) := by rw [hk, List.getElem?_map, h1]; rfl
        rw [List.getElem?_map, Array.getElem?_toList] at this
        rw [this]; rfl
      simp only [Option.map_some, hkey, Instr.keyThatStays, L.same, if_true, Sem.run_pure, Sem.run_bind, Result.andThen_ok, run_setMap hb]
  rw [hrun]
  cases hf : ys.findIdx? (fun z => decide (y = z)) with
  | none =>
    have hy := findIdx_none.1 hf
    refine ⟨_, rfl, ⟨_, _, putB_at hb, ?_, ?_, ?_⟩, putB_grown _ _ _, putB_size _ _ _⟩
    · simp [insL, hy, hk]
    · intro e he
      simp only [Array.toList_push, List.mem_append, List.mem_singleton] at he
      rcases he with he | rfl
      · exact ⟨(hv e he).1, by have := (hv e he).2; omega⟩
      · exact ⟨rfl, by simp⟩
    · simp only [Array.toList_push, List.map_append, List.map_cons, List.map_nil]
      rw [List.nodup_append]
      refine ⟨hn, by simp, ?_⟩
      rintro a ha c hc rfl
      obtain ⟨e, he, rfl⟩ := List.mem_map.1 ha
      have := (hv e he).2
      simp at hc; omega
  | some i =>
    obtain ⟨h1, h2⟩ := findIdx_mem hf
    have hsame : es.modify i (fun e => { e with key := enc y, val := .agg #[] }) = es := by
      apply Array.ext
      · simp
      · intro j hj1 hj2
        rw [Array.getElem_modify]
        split
        · next hij =>
          subst hij
          have hk' : (es.toList.map (·.key))[i]? = some (enc y) := by rw [hk, List.getElem?_map, h1]; rfl
          rw [List.getElem?_map, Array.getElem?_toList, Array.getElem?_eq_getElem hj2] at hk'
          simp only [Option.map_some, Option.some.injEq] at hk'
          have hv' := (hv es[i] (by simp)).1
          generalize es[i] = x at hk' hv'
          cases x
          simp only at hk' hv'
          subst hk'; subst hv'; rfl
        · rfl
    refine ⟨_, rfl, ⟨_, _, putB_at hb, ?_, ?_, ?_⟩, putB_grown _ _ _, putB_size _ _ _⟩
    · rw [hsame]; simp [insL, h2, hk]
    · rw [hsame]; exact hv
    · rw [hsame]; exact hn

theorem run_delS {w : World} {b : Nat} {ys : List α} (hs : SetAt w b (ys.map enc)) (y : α) (ty : TypeId) :
    ∃ w', (Builtin.delete_ #[T, K] ty #[.map (some b), enc y]).run Try.prog w = .ok (.tuple #[]) w' ∧ SetAt w' b ((ys.erase y).map enc) ∧ w.grownBy w' (some b) ∧ w'.heap.size = w.heap.size := by
  obtain ⟨es, clock, hb, hk, hv, hn⟩ := hs
  have hrun : (Builtin.delete_ #[T, K] ty #[.map (some b), enc y]).run Try.prog w =
      match ys.findIdx? (fun z => decide (y = z)) with
      | some i => .ok (.tuple #[]) (putB w b (.map (es.eraseIdxIfInBounds i) clock))
      | none => .ok (.tuple #[]) (putB w b (.map es clock)) := by
    unfold Builtin.delete_
    simp only [List.getElem?_toArray, List.getElem?_cons_zero, List.getElem?_cons_succ, Sem.run_bind, run_underlying hT, Result.andThen_ok, run_getMap hb, L.check, L.find y es.toList ys w hk]
    cases hf : ys.findIdx? (fun z => decide (y = z)) with
    | none => simp [run_setMap hb]
    | some i => simp [run_setMap hb]
  rw [hrun]
  cases hf : ys.findIdx? (fun z => decide (y = z)) with
  | none =>
    have hy := findIdx_none.1 hf
    refine ⟨_, rfl, ⟨_, _, putB_at hb, ?_, hv, hn⟩, putB_grown _ _ _, putB_size _ _ _⟩
    rw [List.erase_of_not_mem hy]; exact hk
  | some i =>
    have hi : i < es.size := by
      have h1 := (List.findIdx?_eq_some_iff_getElem.1 hf).1
      have h2 := congrArg List.length hk
      simp at h2; omega
    have hl : (es.eraseIdxIfInBounds i).toList = es.toList.eraseIdx i := by
      rw [Array.eraseIdxIfInBounds, dif_pos hi, Array.toList_eraseIdx]
    have he : ys.erase y = ys.eraseIdx i := by
      rw [List.erase_eq_eraseIdx]
      have : ys.idxOf? y = some i := by
        have hfe : (fun z => z == y) = (fun z => decide (y = z)) := by funext z; rw [Bool.eq_iff_iff, beq_iff_eq, decide_eq_true_eq]; exact ⟨Eq.symm, Eq.symm⟩
        show ys.findIdx? (fun z => z == y) = some i
        rw [hfe]; exact hf
      simp only [this]
    refine ⟨_, rfl, ⟨_, _, putB_at hb, ?_, ?_, ?_⟩, putB_grown _ _ _, putB_size _ _ _⟩
    · rw [hl, he, map_erase, hk, map_erase]
    · intro e hm; rw [hl] at hm; exact hv e (List.mem_of_mem_eraseIdx hm)
    · rw [hl]; exact hn.sublist ((List.eraseIdx_sublist _ _).map _)
end

theorem run_lenS {T K : TypeId} (hT : Try.prog.underlying T = some (.map K 78)) {w : World} {b : Nat} {ks : List Value} (hs : SetAt w b ks) (ty : TypeId) :
    (Builtin.len_ #[T] ty #[.map (some b)]).run Try.prog w = .ok (.int .i64 ks.length) w := by
  obtain ⟨es, clock, hb, hk, hv, hn⟩ := hs
  have : es.size = ks.length := by rw [← hk]; simp
  unfold Builtin.len_
  simp [run_underlying hT, run_getMap hb, goInt, this]

end Go.Proofs.Ytdlcpmjhngfgkaa
