import Derived.Test.YtdlcpmjhngfgkaaF4
import Derived.Test.YtdlcpmjhngfgkaaS0
import Derived.Laws.Tables
import Derived.Laws.Rows
namespace Go.Proofs.Ytdlcpmjhngfgkaa
open Go.RowKit Go.Shelf
attribute [local go_sem] Oper.semAt_some

theorem wrap_in (x : Int) : InI (wrap64 x) := by
  unfold wrap64 InI
  omega

/-- a cell of another row stays -/
theorem gcell {w w' : World} {row : Option Nat} {p : Addr} {v : Value} (h : w.cell? p = some v) (hg : w.grownBy w' row) (hne : some p.block ≠ row) : w'.cell? p = some v :=
  (World.cell?_of_block (w := w) (hg.block p.block (World.block_lt_of_cell? w _ h) hne)).trans h

/-- the state while a call's arguments are made -/
theorem own_apart {W : World} {base : Nat} {v : Value} {l : List Int} (h : OwnInts W base v l) {k : Nat} (hk : k < base) : some k ≠ v.ownBlock := fun e => by
  have := (ownsRow_base h k e.symm).1
  omega

structure ArgInv (w : World) (k d a b op n : Int) (nm : ByteArray) (ag : Value) (rd : Int) (name : ByteArray) (j : Nat) (l : List Int) (av : Value) (W : World) : Prop where
  below : Below w.heap.size w W
  raw : W.heap[w.heap.size]? = some (.cells #[I k, I d, I a, I b, I op, I n, .string nm, ag] 41 (0, 0))
  res : ∃ cs, W.heap[w.heap.size + 1]? = some (.cells cs 41 (0, 0)) ∧ cs.size = 8
  box : W.heap[w.heap.size + 1 + 1]? = some (.cells #[I 9, I rd, I 0, I 0, I 0, I 0, .string name, av] 41 (0, 0))
  own : OwnInts W (w.heap.size + 3) av l
  len : l.length = j
  rng : ∀ v ∈ l, 0 ≤ v ∧ v < 10

section
variable {w : World} {k d a b op n : Int} {nm : ByteArray} {ag : Value} {rd : Int} {name : ByteArray} {j : Nat} {l : List Int} {av : Value} {W W' : World}
theorem ArgInv.ext (h : ArgInv w k d a b op n nm ag rd name j l av W) (hg : W.grownBy W' none) : ArgInv w k d a b op n nm ag rd name j l av W' := by
  obtain ⟨cs, hr, hs⟩ := h.res
  exact ⟨h.below.grown hg h.below.size (fun _ e => by cases e), grown_old hg h.raw (by simp), ⟨cs, grown_old hg hr (by simp), hs⟩, grown_old hg h.box (by simp), h.own.tag hg (NoTag.none _ _), h.len, h.rng⟩
theorem ArgInv.step (h : ArgInv w k d a b op n nm ag rd name j l av W) {v' : Value} {y : Int} (ho : OwnInts W' (w.heap.size + 3) v' (l ++ [y])) (hg : W.grownBy W' av.ownBlock) (hy : 0 ≤ y ∧ y < 10) :
    ArgInv w k d a b op n nm ag rd name (j + 1) (l ++ [y]) v' (W'.setCell ⟨w.heap.size + 1 + 1, 7, none⟩ v') := by
  obtain ⟨cs, hr, hs⟩ := h.res
  have ha : ∀ k, k < w.heap.size + 3 → some k ≠ av.ownBlock := fun k hk => own_apart h.own hk
  have hc := setCell_grown W' (w.heap.size + 1 + 1) 7 v'
  refine ⟨(h.below.grown hg h.below.size (fun k e => by have := (ownsRow_base h.own k e).1; omega)).setCell (by simp only []; omega) _, grown_old hc (grown_old hg h.raw (ha _ (by omega))) (by simp; omega), ⟨cs, grown_old hc (grown_old hg hr (ha _ (by omega))) (by simp), hs⟩, ?_, ?_, by simp [h.len], fun v hv => ?_⟩
  · have : Row W' (w.heap.size + 1 + 1) 41 [I 9, I rd, I 0, I 0, I 0, I 0, .string name, av] := grown_old hg h.box (ha _ (by omega))
    have := this.set 7 v'
    exact this
  · refine ownsRow_kept' ho hc ?_
    cases hb : v'.ownBlock with
    | none => exact .inl rfl
    | some r =>
      right
      have := (ownsRow_base ho r hb).1
      simp; omega
  · rcases List.mem_append.1 hv with hv | hv
    · exact h.rng v hv
    · obtain rfl := List.mem_singleton.1 hv; exact hy
end

set_option maxRecDepth 100000 in
set_option maxHeartbeats 4000000 in
theorem ins_9 (k d a b op n : Int) (nm : ByteArray) (ag nv : Value) (nb : Nat) (w : World) (hk : InI k) (hd : InI d) (ha : InI a) (hb : InI b) (hop : InI op) (hn : InI n) (h9 : pickI k 9 = 8) (hnm : Names w nv nb) :
    Calls Try.prog 27 #[.agg #[I k, I d, I a, I b, I op, I n, .string nm, ag], nv] w (InsPost w) := by
  obtain ⟨rfl, hnr⟩ := hnm
  have H9 := Lib.hid h9
  have HK := Lib.hid hk
  have HD := Lib.hid hd
  have HA := Lib.hid ha
  have HB := Lib.hid hb
  have HO := Lib.hid hop
  have HN := Lib.hid hn
  obtain ⟨q, hq⟩ : ∃ q : Nat, pickI n 3 = q := ⟨(pickI n 3).toNat, by have := pickI_nonneg n 3 (by omega); omega⟩
  have hq3 : q < 3 := by have := pickI_nonneg n 3 (by omega); omega
  have HQ := Lib.hid hq
  have hnl := hnr.lt
  obtain ⟨name, hc⟩ : ∃ name, w.cell? ⟨nb, q, none⟩ = some (.string name) := by
    rcases (by omega : q = 0 ∨ q = 1 ∨ q = 2) with rfl | rfl | rfl
    · exact ⟨_, hnr.cell 0⟩
    · exact ⟨_, hnr.cell 1⟩
    · exact ⟨_, hnr.cell 2⟩
  have hc3 : ∀ o1 o2 o3, (((w.alloc o1).alloc o2).alloc o3).cell? ⟨nb, q, none⟩ = some (.string name) := fun o1 o2 o3 =>
    ((((below_a2 w o1 o2).alloc (by simp; omega) o3).cell (p := ⟨nb, q, none⟩) hnl).trans hc)
  have hqz : (0 : Int) ≤ (q : Int) := by omega
  have hqz3 : (q : Int) < 3 := by omega
  clear h9 hk hd ha hb hop hn hq hnr
  go_enter Try.func27, Try.ntmps27
  go_wp2_with (first
    | (go_at_call 28; (with_reducible refine (pick_at k 9 8 _ HK.out (by omega) (by omega) H9.out).mono ?_); rintro e w' ⟨rfl, rfl⟩)
    | (go_at_call 28; (with_reducible refine (pick_at n 3 q _ HN.out (by omega) (by omega) HQ.out).mono ?_); rintro e w' ⟨rfl, rfl⟩)
    | (go_at_call 28; (with_reducible refine (pick_ex d 10 _ HD.out (by omega) (by omega)).mono ?_); rintro e w' ⟨rd, rfl, rd0, rd1, rfl⟩))
  go_loopg [7] q (fun gh i wr => ∃ (j : Nat) (l : List Int) (av : Value), gh + j = q ∧ i = I j ∧ ArgInv w k d a b op n nm ag rd name j l av wr)
  case atStart =>
    refine ⟨0, [], .slice none 0 0, by omega, rfl, (below_a2 _ _ _).alloc (by simp; omega) _, heap_old _ _ (heap_old _ _ (heap_new _ _)), ⟨_, heap_old _ _ (heap_new2 _ _ _), rfl⟩, ?_, OwnInts.nil _ _, rfl, by simp⟩
    have := heap_new (((w.alloc (Obj.cells #[I k, I d, I a, I b, I op, I n, Value.string nm, ag] 41)).alloc
              (Obj.cells #[Value.int IntKind.i64 0, Value.int IntKind.i64 0, Value.int IntKind.i64 0, Value.int IntKind.i64 0, Value.int IntKind.i64 0, Value.int IntKind.i64 0, Value.string { data := #[] }, Value.slice none 0 0] 41)))
    simpa using this _
  case round =>
    obtain ⟨j, l, av, hg, rfl, hinv⟩ := hrel
    obtain ⟨w1, rfl⟩ : ∃ w1, w1 = wr := ⟨_, rfl⟩
    have HI := Lib.hid hinv
    clear hinv hc hc3
    by_cases hjq : j < q
    · have hjz : (j : Int) < (q : Int) := by omega
      obtain ⟨xa, xc, rfl⟩ := HI.out.own.slice
      have hB := cell_of_block HI.out.box 7
      have h2 := cell_of_block HI.out.raw 2
      have h3 := cell_of_block HI.out.raw 3
      simp only [List.getElem?_toArray, List.getElem?_cons_succ, List.getElem?_cons_zero] at hB h2 h3
      go_wp2
      refine wp_region_ordW (by kernel_rfl) (fun W => W.cell? ⟨w.heap.size + 1 + 1, 7, none⟩ = some (.slice xa l.length xc) ∧ W.cell? ⟨w.heap.size, 2, none⟩ = some (I a) ∧ W.cell? ⟨w.heap.size, 3, none⟩ = some (I b))
        [(0, 0), (0, 1), (0, 2), (0, 3), (0, 4), (0, 5), (0, 6), (0, 7), (0, 8), (1, 9), (1, 10), (1, 11), (0, 12), (2, 13)] (by kernel_rfl) ?hS ?_
      case hS => intro wd hh; simp only [World.cell?, hh] at hB h2 h3 ⊢; exact ⟨hB, h2, h3⟩
      intro wd hh hgd hS
      have hinv := HI.out.ext hgd
      have HJ := Lib.hid hinv
      clear HI hB h2 h3 hinv hh hgd
      simp only [pickOps, List.map_cons, List.map_nil, List.getElem?_cons_zero, List.getElem?_cons_succ, Option.getD_some]
      repeat (refine wpOrd_look (v := ?_) (by rfl) ?_ (by assumption) (fun _ _ _ h => h) ?_; rotate_left; (· (intro wS hSw; (try dsimp only at hSw); go_simp; (first | done | with_reducible rfl))); simp only [Act.put, List.setIfInBounds_toArray, List.set_cons_zero, List.set_cons_succ])
      refine wpOrd_turn ?_
      go_wp2_with (first
        | (go_at_call 28; refine (pick_ex _ 10 _ (wrap_in _) (by omega) (by omega)).mono ?_; rintro e w' ⟨y, rfl, y0, y1, rfl⟩))
      refine QN_keep hS fun hS => ?_
      refine wpOrd_turn ?_
      go_wp2
      have HA := Lib.hid (HJ.out.ext (alloc_grown wd (Obj.cells #[I y] 3) none))
      have hlen : l.length ≤ 2 := by have := HJ.out.len; omega
      have hbs := World.block_lt_of_cell? wd _ hS.1
      simp only [] at hbs
      refine QN_keep ?_ fun hS => ?_
      · obtain ⟨s1, s2, s3⟩ := hS
        have hba := below_a1 wd (Obj.cells #[I y] 3)
        exact ⟨(hba.cell (p := ⟨w.heap.size + 1 + 1, 7, none⟩) (by simp only []; omega)).trans s1, (hba.cell (p := ⟨w.heap.size, 2, none⟩) (by simp only []; omega)).trans s2, (hba.cell (p := ⟨w.heap.size, 3, none⟩) (by simp only []; omega)).trans s3⟩
      refine wpOrd_turn ?_
      have hsz : w.heap.size + 3 ≤ (wd.alloc (Obj.cells #[I y] 3)).heap.size := by simp; omega
      have hcy : (wd.alloc (Obj.cells #[I y] 3)).cell? ⟨wd.heap.size, 0, none⟩ = some (I y) := by rw [cell_of_block (heap_new _ _)]; rfl
      have HSZ := Lib.hid hsz
      have HCY := Lib.hid hcy
      obtain ⟨W, hW⟩ : ∃ W, W = wd.alloc (Obj.cells #[I y] 3) := ⟨_, rfl⟩
      rw [← hW] at HA HSZ HCY hS ⊢
      clear hsz hcy hW
      go_wp2_with (first
        | (at_builtin; refine wpList_app1 rfl _ _ rfl (w.heap.size + 3) (.slice xa l.length xc) l rfl HA.out.own _ y rfl HCY.out (by omega) HSZ.out ?_; intro g' cap w2 ho2 hg2 _ _; have HO2 := Lib.hid ho2; have HG2 := Lib.hid hg2; clear ho2 hg2))
      have hap : ∀ k, k < w.heap.size + 3 → some k ≠ (Value.slice xa l.length xc).ownBlock := fun k hk => own_apart HA.out.own hk
      have HAP := Lib.hid hap
      clear hap
      refine QN_keep ?_ fun hS => ?_
      · obtain ⟨s1, s2, s3⟩ := hS
        exact ⟨gcell s1 HG2.out (HAP.out (w.heap.size + 1 + 1) (by omega)), gcell s2 HG2.out (HAP.out w.heap.size (by omega)), gcell s3 HG2.out (HAP.out w.heap.size (by omega))⟩
      repeat (refine wpOrd_look (v := ?_) (by rfl) ?_ (by assumption) (fun _ _ _ h => h) ?_; rotate_left; (· (intro wS hSw; (try dsimp only at hSw); go_simp; (first | done | with_reducible rfl))); simp only [Act.put, List.setIfInBounds_toArray, List.set_cons_zero, List.set_cons_succ])
      refine wpOrd_last ?_
      have hfz : w2.frozen? ⟨w.heap.size + 1 + 1, 7, none⟩ = false := by
        have : Row w2 (w.heap.size + 1 + 1) 41 [I 9, I rd, I 0, I 0, I 0, I 0, .string name, .slice xa l.length xc] := grown_old HG2.out HA.out.box (HAP.out _ (by omega))
        exact this.frozen 7
      obtain ⟨hs1, _⟩ := hS
      go_wp2
      refine QN_normal (wpOrd_nil ?_)
      go_wp2
      go_roundg (q - (j + 1))
      case measure => omega
      case rel => exact ⟨j + 1, l ++ [y], _, by omega, by go_num, HA.out.step HO2.out HG2.out ⟨y0, y1⟩⟩
    · have hjz : ¬ (j : Int) < (q : Int) := by omega
      obtain ⟨xa, xc, rfl⟩ := HI.out.own.slice
      obtain ⟨cs, hr, hcs⟩ := HI.out.res
      have hlen : l.length ≤ 2 := by have := HI.out.len; omega
      have HR := Lib.hid hr
      have HCS := Lib.hid hcs
      have HL := Lib.hid hlen
      clear hr hcs hlen
      go_wp2_with (first
        | (refine wpList_load_row rfl 41 (.tmp 5) rfl (w.heap.size + 1 + 1) rfl 41 _ (0, 0) _ HI.out.box Try.underlying41 rfl (by kernel_rfl) ?_)
        | (refine wpList_store_row rfl 41 (.tmp 4) (.tmp 117) rfl (w.heap.size + 1) _ rfl rfl 41 _ HR.out (by kernel_rfl) (by rw [HCS.out]; rfl) (by simp [Value.oneCell']) ?_))
      have hrow : (w1.setRow (w.heap.size + 1) #[I 9, I rd, I 0, I 0, I 0, I 0, .string name, .slice xa l.length xc]).heap[w.heap.size + 1]? = some (.cells #[I 9, I rd, I 0, I 0, I 0, I 0, .string name, .slice xa l.length xc] 41 (0, 0)) := setRow_heap _ _ _ _ _ _ HR.out
      refine bodyPost_ret (results_cell_row rfl _ _ (w.heap.size + 1) 41 _ (0, 0) _ rfl hrow Try.underlying41 rfl (by kernel_rfl)) rfl ?_
      have hg : w1.grownBy (w1.setRow (w.heap.size + 1) #[I 9, I rd, I 0, I 0, I 0, I 0, .string name, .slice xa l.length xc]) (some (w.heap.size + 1)) := ⟨rfl, rfl, rfl, by simp, fun i _ hi => setRow_other _ _ _ _ (fun e => hi (by rw [e]))⟩
      refine ⟨⟨9, rd, 0, 0, 0, 0, name, l⟩, _, rfl, GoodIns.of (by omega) ⟨rd0, rd1⟩ (by omega) (by omega) HI.out.rng HL.out, ?_, HI.out.below.grown hg HI.out.below.size (fun k e => by cases e; omega)⟩
      exact OwnInts.mono (ownsRow_kept' HI.out.own hg (.inr (fun e => own_apart HI.out.own (k := w.heap.size + 1) (by omega) e.symm))) (by omega)
end Go.Proofs.Ytdlcpmjhngfgkaa

namespace Go.Proofs.Ytdlcpmjhngfgkaa
open Go.RowKit Go.Shelf
attribute [local go_sem] Oper.semAt_some

theorem lawIns_any (k d a b op n : Int) (nm : ByteArray) (ag nv : Value) (nb : Nat) (w : World) (hk : InI k) (hd : InI d) (ha : InI a) (hb : InI b) (hop : InI op) (hn : InI n) (hnm : Names w nv nb) :
    Calls Try.prog 27 #[.agg #[I k, I d, I a, I b, I op, I n, .string nm, ag], nv] w (InsPost w) := by
  have h9 := pickI_nonneg k 9 (by omega)
  have h2 := pickI_nonneg n 2 (by omega)
  rcases (by omega : pickI k 9 = 0 ∨ pickI k 9 = 1 ∨ pickI k 9 = 2 ∨ pickI k 9 = 3 ∨ pickI k 9 = 4 ∨ pickI k 9 = 5 ∨ pickI k 9 = 6 ∨ pickI k 9 = 7 ∨ pickI k 9 = 8) with h | h | h | h | h | h | h | h | h
  · exact ins_1 k d a b op n nm ag nv w hk hd ha hb hop hn h
  · exact ins_2 k d a b op n nm ag nv w hk hd ha hb hop hn h
  · exact ins_3 k d a b op n nm ag nv w hk hd ha hb hop hn h
  · exact ins_4 k d a b op n nm ag nv w hk hd ha hb hop hn h
  · rcases (by omega : pickI n 2 = 0 ∨ pickI n 2 = 1) with h' | h'
    · exact ins_5a k d a b op n nm ag nv w hk hd ha hb hop hn h h'
    · exact ins_5b k d a b op n nm ag nv w hk hd ha hb hop hn h h'
  · rcases (by omega : pickI n 2 = 0 ∨ pickI n 2 = 1) with h' | h'
    · exact ins_6a k d a b op n nm ag nv w hk hd ha hb hop hn h h'
    · exact ins_6b k d a b op n nm ag nv w hk hd ha hb hop hn h h'
  · exact ins_7 k d a b op n nm ag nv w hk hd ha hb hop hn h
  · exact ins_8 k d a b op n nm ag nv w hk hd ha hb hop hn h
  · exact ins_9 k d a b op n nm ag nv nb w hk hd ha hb hop hn h hnm

theorem flat_get {α : Type} {enc : α → List Value} {k : Nat} (hk : ∀ x, (enc x).length = k) : ∀ (l : List α) (i j : Nat), j < k → (l.flatMap enc)[i * k + j]? = (l[i]?).bind fun x => (enc x)[j]?
  | [], i, j, _ => by simp
  | x :: l, 0, j, hj => by
    rw [List.flatMap_cons, Nat.zero_mul, Nat.zero_add, List.getElem?_append_left (by rw [hk]; exact hj)]
    simp
  | x :: l, i + 1, j, hj => by
    rw [List.flatMap_cons, List.getElem?_append_right (by rw [hk, Nat.succ_mul]; omega), hk, show (i + 1) * k + j - k = i * k + j by rw [Nat.succ_mul]; omega, flat_get hk l i j hj]
    simp
theorem flat_len {α : Type} {enc : α → List Value} {k : Nat} (hk : ∀ x, (enc x).length = k) : ∀ (l : List α), (l.flatMap enc).length = l.length * k
  | [] => by simp
  | x :: l => by rw [List.flatMap_cons, List.length_append, hk, flat_len hk l, List.length_cons, Nat.succ_mul, Nat.add_comm]

/-- a slice that owns its elements of k cells each -/
def OwnS {α : Type} (k e : Nat) (enc : α → List Value) (w : World) (base : Nat) (v : Value) (l : List α) : Prop := w.ownsRow base e k v l.length (l.flatMap enc)
section
variable {α : Type} {k e : Nat} {enc : α → List Value} {w : World} {base : Nat} {v : Value} {l : List α}
theorem OwnS.nil : OwnS k e enc w base (.slice none 0 0) ([] : List α) := ⟨by simp, .inl ⟨rfl, rfl⟩⟩
theorem OwnS.slice (h : OwnS k e enc w base v l) : ∃ a c, v = .slice a l.length c := by
  rcases h.2 with ⟨rfl, h0⟩ | ⟨g, cap, _, rfl, _⟩
  · exact ⟨_, _, by rw [h0]⟩
  · exact ⟨_, _, rfl⟩
theorem OwnS.cell (h : OwnS k e enc w base v l) (hk : ∀ x, (enc x).length = k) {i : Nat} (hi : i < l.length) :
    ∃ g c, v = .slice (some ⟨g, 0, none⟩) l.length c ∧ base ≤ g ∧ ∀ j, j < k → w.cell? ⟨g, i * k + j, none⟩ = (enc l[i])[j]? ∧ w.frozen? ⟨g, i * k + j, none⟩ = false := by
  rcases h.2 with ⟨rfl, h0⟩ | ⟨g, cap, cur, rfl, hb, hg, hc, hm, hs, ht⟩
  · omega
  · refine ⟨g, cap, rfl, hb, fun j hj => ⟨?_, by simp [World.frozen?, hg]⟩⟩
    rw [cell_of_block hg]
    have h1 := flat_get hk l i j hj
    rw [List.getElem?_eq_getElem hi] at h1
    simp only [Option.bind_some] at h1
    rw [← h1, ← ht, List.getElem?_take]
    have h2 : i * k + j < l.length * k := by
      have : (i + 1) * k ≤ l.length * k := Nat.mul_le_mul_right k hi
      rw [Nat.succ_mul] at this
      omega
    simp [h2]
theorem OwnS.rsl {β : Type} {R : World → (Nat → Value) → β → Prop} (f : α → β) (h : OwnS k e enc w base v l) (hk : ∀ x, (enc x).length = k) (hl : l.length ≤ 140737488351232) (hR : ∀ x ∈ l, R w (fun j => (enc x).getD j undef) (f x)) : RSl k R w v (l.map f) := by
  obtain ⟨a, c, hv⟩ := h.slice
  refine ⟨a, c, by rw [List.length_map]; exact hv, by rw [List.length_map]; exact hl, ?_⟩
  cases l with
  | nil => exact .inl rfl
  | cons x0 l0 =>
    right
    obtain ⟨g, c', hv', _, _⟩ := h.cell hk (i := 0) (by simp)
    have ha : a = some ⟨g, 0, none⟩ := by rw [hv] at hv'; simp at hv'; exact hv'.1
    refine ⟨g, 0, ha, fun i x hx => ?_⟩
    rw [List.getElem?_map] at hx
    have hi : i < (x0 :: l0).length := by
      rcases Nat.lt_or_ge i (x0 :: l0).length with h' | h'
      · exact h'
      · rw [List.getElem?_eq_none h'] at hx; cases hx
    rw [List.getElem?_eq_getElem hi] at hx
    simp only [Option.map_some, Option.some.injEq] at hx
    obtain ⟨g2, c2, hv2, _, hcell⟩ := h.cell hk hi
    obtain rfl : g2 = g := by rw [hv'] at hv2; simp at hv2; exact hv2.1.symm
    refine ⟨fun j => (enc (x0 :: l0)[i]).getD j undef, fun j hj => ?_, by rw [← hx]; exact hR _ (List.getElem_mem hi)⟩
    rw [Nat.zero_add, (hcell j hj).1]
    have : j < (enc (x0 :: l0)[i]).length := by rw [hk]; exact hj
    simp [this]
theorem OwnS.tag {w' : World} {row : Option Nat} (h : OwnS k e enc w base v l) (hg : w.grownBy w' row) (hr : NoTag w row e) : OwnS k e enc w' base v l := ownsRow_tag h hg hr
theorem OwnS.mono {base' : Nat} (h : OwnS k e enc w base v l) (hb : base' ≤ base) : OwnS k e enc w base' v l :=
  ⟨h.1, h.2.imp (fun h => h) (fun ⟨g, cap, cur, h1, h2, h3⟩ => ⟨g, cap, cur, h1, Nat.le_trans hb h2, h3⟩)⟩
theorem OwnS.fromB (h : OwnS k e enc w base v l) : FromB base v := fun ad m c hv => by
  rcases h.2 with ⟨rfl, h0⟩ | ⟨g, cap, _, rfl, hb, _⟩
  · cases hv
  · cases hv; exact hb
end

/-- append of one element of some cells -/
theorem wpList_appS {α : Type} {t e k bytes : Nat} {enc : α → List Value} (S : SlT t e k bytes) {w : World} {ops : Array Oper} {rest : List Oper} {o : Oper} {a : Act} {Q : Exit → Act → World → Prop} (hgd : o.guard = none) (s x : Operand)
    (ho : o.op = .call { callee := .builtin .append, args := #[s, x], argTypes := #[t, t] }) (hk : ∀ x, (enc x).length = k) (h1 : ∀ x, ∀ u ∈ enc x, u.oneCell' = true)
    (base : Nat) (v : Value) (l : List α) (hs : a.eval s = v) (hown : OwnS k e enc w base v l)
    (g : Nat) (y : α) (hx : a.eval x = .slice (some ⟨g, 0, none⟩) 1 1) (hg : ∀ j, j < k → w.cell? ⟨g, j, none⟩ = (enc y)[j]?)
    (hl : l.length ≤ 1000000000) (hb8 : bytes ≤ 100) (hbase : base ≤ w.heap.size)
    (h : ∀ g' cap w', OwnS k e enc w' base (.slice (some ⟨g', 0, none⟩) (l.length + 1) cap) (l ++ [y]) → w.grownBy w' v.ownBlock → (v.ownBlock = some g' ∨ g' = w.heap.size) → g' < w'.heap.size → wpList Try.prog ops Q rest (a.put o.dst (.slice (some ⟨g', 0, none⟩) (l.length + 1) cap)) w') : wpList Try.prog ops Q (o :: rest) a w := by
  refine wpList_app S hgd s x ho base v l.length _ hs hown ⟨g, 0, none⟩ 1 1 (enc y) hx (by rw [hk]; omega) ?_ (h1 y) (by decide) ?_ (by unfold maxLen; omega) hbase ?_
  · intro j u hu
    rw [add_nat, Nat.zero_add]
    have hj : j < k := by rw [← hk y]; exact (List.getElem?_eq_some_iff.1 hu).1
    rw [hg j hj]
    exact hu
  · have : (l.length + 1) * bytes ≤ (l.length + 1) * 100 := Nat.mul_le_mul_left _ hb8
    omega
  · intro g' cap w' h1 h2 h3 h4
    exact h g' cap w' (by unfold OwnS; rw [List.length_append, List.flatMap_append]; simpa using h1) h2 h3 h4

/-- a slice whose cells all lie from a place on stays while what lies ahead is changed -/
theorem RSl.grownF {α : Type} {k base : Nat} {R : World → (Nat → Value) → α → Prop} {w w' : World} {row : Option Nat} {v : Value} {l : List α} (hR : ∀ C x, x ∈ l → R w C x → R w' C x) (hv : FromB base v) (hg : w.grownBy w' row) (hr : ∀ r, row = some r → r < base) (h : RSl k R w v l) : RSl k R w' v l := by
  obtain ⟨a, c, h1, h2, h3⟩ := h
  refine ⟨a, c, h1, h2, h3.imp (fun h => h) ?_⟩
  rintro ⟨b, o, rfl, h4⟩
  refine ⟨b, o, rfl, fun i x hx => ?_⟩
  obtain ⟨C, hC, hRx⟩ := h4 i x hx
  have hb := hv _ _ _ h1
  simp only [] at hb
  refine ⟨C, fun j hj => gcell (hC j hj) hg (fun e => ?_), hR _ _ (List.mem_of_getElem? hx) hRx⟩
  have := hr b e.symm
  omega

end Go.Proofs.Ytdlcpmjhngfgkaa
