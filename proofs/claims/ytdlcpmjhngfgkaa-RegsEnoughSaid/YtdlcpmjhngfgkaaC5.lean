import Derived.Test.YtdlcpmjhngfgkaaC4
namespace Go.Proofs.Ytdlcpmjhngfgkaa
open Go.RowKit Go.Shelf

/-! ### what is wanted, in plain words -/
def aheadS (x : LIns) (S : Int → Prop) : Int → Prop := fun v => v ∈ x.uses ∨ (S v ∧ v ∉ x.sets)
def endS (t : LTerm) (L : Nat → Int → Prop) : Int → Prop := fun v => (∃ k ∈ t.next, L k.toNat v) ∨ v ∈ t.wants
def beginS (b : LBlock) (L : Nat → Int → Prop) : Int → Prop := b.ins.foldr aheadS (endS b.term L)
def ClosedS (bl : List LBlock) (L : Nat → Int → Prop) : Prop := ∀ i b, bl[i]? = some b → ∀ v, beginS b L v → L i v
/-- what is wanted at a block's beginning: what is in whatever is closed -/
def LiveS (bl : List LBlock) (i : Nat) (v : Int) : Prop := ∀ L, ClosedS bl L → L i v

theorem aheadS_mono {x : LIns} {S S' : Int → Prop} (h : ∀ v, S v → S' v) : ∀ v, aheadS x S v → aheadS x S' v := by
  rintro v (h1 | ⟨h1, h2⟩)
  · exact .inl h1
  · exact .inr ⟨h v h1, h2⟩
theorem foldr_mono (l : List LIns) {S S' : Int → Prop} (h : ∀ v, S v → S' v) : ∀ v, l.foldr aheadS S v → l.foldr aheadS S' v := by
  induction l with
  | nil => exact h
  | cons x l ih => exact aheadS_mono ih
theorem endS_mono {t : LTerm} {L L' : Nat → Int → Prop} (h : ∀ i v, L i v → L' i v) : ∀ v, endS t L v → endS t L' v := by
  rintro v (⟨k, hk, h1⟩ | h1)
  · exact .inl ⟨k, hk, h _ _ h1⟩
  · exact .inr h1
theorem beginS_mono {b : LBlock} {L L' : Nat → Int → Prop} (h : ∀ i v, L i v → L' i v) : ∀ v, beginS b L v → beginS b L' v := foldr_mono _ (endS_mono h)
theorem LiveS_closed (bl : List LBlock) : ClosedS bl (LiveS bl) := fun i b hb v hv L hL => hL i b hb v (beginS_mono (fun j u hu => hu L hL) v hv)

/-- all that is looked at anywhere -/
def blkUses (b : LBlock) : List Int := b.ins.flatMap LIns.uses ++ b.term.wants
def allUses (bl : List LBlock) : List Int := bl.flatMap blkUses
theorem foldr_uses (l : List LIns) (S U : Int → Prop) (h : ∀ v, S v → U v) (hu : ∀ x ∈ l, ∀ v ∈ x.uses, U v) : ∀ v, l.foldr aheadS S v → U v := by
  induction l with
  | nil => exact h
  | cons x l ih =>
    rintro v (h1 | ⟨h1, _⟩)
    · exact hu x List.mem_cons_self v h1
    · exact ih (fun y hy => hu y (List.mem_cons_of_mem _ hy)) v h1
theorem LiveS_uses {bl : List LBlock} {i : Nat} {v : Int} (h : LiveS bl i v) : v ∈ allUses bl := by
  refine h (fun _ v => v ∈ allUses bl) ?_
  intro i b hb v hv
  have hmem := List.mem_of_getElem? hb
  refine foldr_uses b.ins _ (fun v => v ∈ allUses bl) ?_ ?_ v hv
  · rintro v (⟨k, _, h1⟩ | h1)
    · exact h1
    · exact List.mem_flatMap.2 ⟨b, hmem, List.mem_append_right _ h1⟩
  · intro x hx v hv
    exact List.mem_flatMap.2 ⟨b, hmem, List.mem_append_left _ (List.mem_flatMap.2 ⟨x, hx, hv⟩)⟩

/-- lists as sets of what is wanted -/
def asS (Ls : List (List Int)) : Nat → Int → Prop := fun i v => ∃ l, Ls[i]? = some l ∧ v ∈ l

/-- how the steps go, from behind the last instruction -/
def stepL (x : LIns) (S : List Int) : List Int := insAll x.uses (eraseAll x.sets S)
theorem nodup_stepL {x : LIns} {S : List Int} (h : S.Nodup) : (stepL x S).Nodup := nodup_insAll (nodup_eraseAll h)
theorem mem_stepL {x : LIns} {S : List Int} (h : S.Nodup) {v : Int} : v ∈ stepL x S ↔ aheadS x (· ∈ S) v := by
  unfold stepL aheadS; rw [mem_insAll, mem_eraseAll h]
theorem aheadS_congr {x : LIns} {S S' : Int → Prop} (h : ∀ v, S v ↔ S' v) (v : Int) : aheadS x S v ↔ aheadS x S' v := by unfold aheadS; rw [h v]
theorem nodup_foldl {l : List LIns} {S : List Int} (h : S.Nodup) : (l.foldl (fun s x => stepL x s) S).Nodup := by
  induction l generalizing S with
  | nil => exact h
  | cons x l ih => exact ih (nodup_stepL h)
theorem mem_foldl {l : List LIns} {S : List Int} {S' : Int → Prop} (hn : S.Nodup) (h : ∀ v, v ∈ S ↔ S' v) (v : Int) : v ∈ l.foldl (fun s x => stepL x s) S ↔ l.reverse.foldr aheadS S' v := by
  induction l generalizing S S' with
  | nil => exact h v
  | cons x l ih =>
    rw [List.foldl_cons, List.reverse_cons, List.foldr_append]
    exact ih (nodup_stepL hn) (fun v => by rw [mem_stepL hn]; exact aheadS_congr h v)

def sortL (S : List Int) : List Int := S.mergeSort (fun x y => decide (x ≤ y))
theorem mem_sortL {S : List Int} {v : Int} : v ∈ sortL S ↔ v ∈ S := (List.mergeSort_perm S _).mem_iff

def RisingSaid : Prop := ∀ (b : Nat) (S : List Int) (w : World), SetAt w b (S.map I) → S.Nodup → S.length ≤ 1000000000000 → (∀ x ∈ S, InI x) → Calls Try.prog 47 #[.map (some b)] w (RetInts w (sortL S))

/-- the marks of loops that are over -/
def marks (ds : List Nat) : List Deferred := ds.map fun D => { target := .collected D, args := #[] }

theorem leaves_marks {F : Fence} {n : Nat} {fn : Func} {tmps : Array Value} {R : Ending → World → Prop} : ∀ (ds : List Nat) (w : World), (∀ d ∈ ds, w.heap[d]? = some (.deferred (some []))) → ds.Nodup →
    (∀ w', (∀ k, k ∉ ds → w'.heap[k]? = w.heap[k]?) → w'.heap.size = w.heap.size → w'.os = w.os → w'.tape = w.tape → w'.output = w.output → LeavesInM F n Try.prog fn tmps R [] .returning w') →
    LeavesInM F n Try.prog fn tmps R (marks ds) .returning w
  | [], w, _, _, h => h w (fun _ _ => rfl) rfl rfl rfl rfl
  | d :: ds, w, hd, hn, h => by
    rw [List.nodup_cons] at hn
    have h0 := hd d List.mem_cons_self
    refine ⟨by simp, .inl ⟨d, _, rfl, run_takeDeferred h0, ?_⟩⟩
    refine leaves_marks ds _ (fun e he => ?_) hn.2 (fun w' hw hs ho ht hu => ?_)
    · rw [World.putObj_heap_other (by rintro rfl; exact hn.1 he)]; exact hd e (List.mem_cons_of_mem _ he)
    · refine h w' (fun k hk => ?_) (by rw [hs]; simp) ho ht hu
      rw [hw k (fun h' => hk (List.mem_cons_of_mem _ h')), World.putObj_heap_other (by rintro rfl; exact hk List.mem_cons_self)]

end Go.Proofs.Ytdlcpmjhngfgkaa
