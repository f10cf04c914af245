import Derived.Test.YtdlcpmjhngfgkaaE4
namespace Go.Proofs.Ytdlcpmjhngfgkaa
open Go.RowKit Go.Shelf
attribute [local go_sem] Oper.semAt_some

/-- which values of a function meet -/
def LiveM (f : LFlow) (i : Nat) (p : Int × Int) : Prop := ∃ x, LiveS f.blocks i x ∧ ∃ y, LiveS f.blocks i y ∧ x ≠ y ∧ p = pairOf x y
def AftM (f : LFlow) (b : LBlock) (k : Nat) (p : Int × Int) : Prop :=
  (∃ x, AfterS b (LiveS f.blocks) k x ∧ ∃ y, AfterS b (LiveS f.blocks) k y ∧ x ≠ y ∧ p = pairOf x y) ∨
  ∃ ins, b.ins[k]? = some ins ∧ 0 ≤ setsI ins.kind ins.d ∧ ∃ x, AfterS b (LiveS f.blocks) k x ∧ x ≠ setsI ins.kind ins.d ∧ p = pairOf x (setsI ins.kind ins.d)
def BlkM (f : LFlow) (i : Nat) (p : Int × Int) : Prop := ∃ b, f.blocks[i]? = some b ∧ (LiveM f i p ∨ ∃ k, k ≤ b.ins.length ∧ AftM f b k p)
def ParM (f : LFlow) (p : Int × Int) : Prop := ∃ x, LiveS f.blocks 0 x ∧ x < f.params ∧ ∃ q, 0 ≤ q ∧ q < min f.params f.values ∧ x ≠ q ∧ p = pairOf x q
def MeetS (f : LFlow) (p : Int × Int) : Prop := (∃ i, BlkM f i p) ∨ (0 < f.blocks.length ∧ ParM f p)

theorem uses_places {bl : List LBlock} {v : Int} (h : v ∈ allUses bl) : v ∈ placesL bl := by
  obtain ⟨b, hb, hv⟩ := List.mem_flatMap.1 h
  refine List.mem_flatMap.2 ⟨b, hb, ?_⟩
  rcases List.mem_append.1 hv with hv | hv
  · obtain ⟨x, hx, hv⟩ := List.mem_flatMap.1 hv
    exact List.mem_append_right _ (List.mem_flatMap.2 ⟨x, hx, List.mem_append_left _ hv⟩)
  · exact List.mem_append_left _ hv
theorem sets_places {bl : List LBlock} {b : LBlock} (hb : b ∈ bl) {x : LIns} (hx : x ∈ b.ins) : setsI x.kind x.d ∈ placesL bl :=
  List.mem_flatMap.2 ⟨b, hb, List.mem_append_right _ (List.mem_flatMap.2 ⟨x, hx, List.mem_append_right _ (List.mem_singleton.2 rfl)⟩)⟩

theorem MeetsPost.iff {base T M P R n : Nat} {pairs : List (Int × Int)} {S S' : Int × Int → Prop} {w w' : World} (h : MeetsPost base T M P R n pairs S w w') (hi : ∀ p, S p ↔ S' p) : MeetsPost base T M P R n pairs S' w w' := by
  obtain ⟨p, c, a, h1, h2, h3⟩ := h
  exact ⟨p, c, a, h1, fun q => by rw [h2 q, hi q], h3⟩
theorem MeetsPost.kept {base T M P R n : Nat} {pairs : List (Int × Int)} {S : Int × Int → Prop} {w w' : World} (h : MeetsPost base T M P R n pairs S w w') : KeptT T P R w w' := by
  obtain ⟨p, c, a, h1, h2, h3⟩ := h; exact h3
theorem MeetsPost.grown {base T M P R n : Nat} {pairs : List (Int × Int)} {S : Int × Int → Prop} {w w' w'' : World} (h : MeetsPost base T M P R n pairs S w w') (hg : w'.grownBy w'' none) : MeetsPost base T M P R n pairs S w w'' := by
  obtain ⟨p, c, a, h1, h2, h3⟩ := h
  exact ⟨p, c, a, h1.ext hg, h2, h3.grown hg h1.lo.2.2.2.2 (fun _ e => by cases e) (NoTag.none _ _)⟩

theorem mall_P (base T M P R n : Nat) (S : Int × Int → Prop) (W2 w : World) (h : MeetsPost base T M P R n [] S W2 w) (hn : n ≤ 1000000) (lv : Value) (l : List Int) (hl : ∀ w', KeptT T P R W2 w' → RInts w' lv l) (hcap : CapOk lv l) (hr : ∀ v ∈ l, 0 ≤ v ∧ v < n) :
    Calls Try.prog 33 #[.pointer (some ⟨M, 0, none⟩), lv] w fun e w' => (∃ v, e = .returned v) ∧ MeetsPost base T M P R n [] (fun p => S p ∨ AllMeet l p) W2 w' ∧ KeptT T P R w w' := by
  obtain ⟨p, c, a, h1, h2, h3⟩ := h
  refine (mall_any base T M P R n p c a w h1 hn lv l (fun w' hk => hl w' (h3.trans hk)) hcap hr).mono ?_
  rintro e w' ⟨hv, p', c', a', k1, k2, k3⟩
  exact ⟨hv, ⟨p', c', a', k1, fun q => by rw [k2 q, h2 q]; simp, h3.trans k3⟩, k3⟩
theorem meet_P (base T M P R n : Nat) (S : Int × Int → Prop) (W2 w : World) (h : MeetsPost base T M P R n [] S W2 w) (hn : n ≤ 1000000) (a b : Int) (ha : 0 ≤ a ∧ a < n) (hb : 0 ≤ b ∧ b < n) :
    Calls Try.prog 35 #[.pointer (some ⟨M, 0, none⟩), I a, I b] w fun e w' => (∃ v, e = .returned v) ∧ MeetsPost base T M P R n [] (fun p => S p ∨ (a ≠ b ∧ p = pairOf a b)) W2 w' ∧ KeptT T P R w w' := by
  obtain ⟨p, c, ad, h1, h2, h3⟩ := h
  refine (meet_I base T M P R n p c ad w h1 hn a b ha hb).mono ?_
  rintro e w' ⟨hv, c', a', k1, k3⟩
  exact ⟨hv, ⟨_, c', a', k1, fun q => by rw [mem_meetL, h2 q]; simp, h3.trans k3⟩, k3⟩

theorem rls_at {P R n base : Nat} {w0 : World} (hP : ∃ es c, w0.heap[P]? = some (.map es c)) (hR : Row w0 R 32 (List.replicate n (.slice none 0 0))) (hRb : R < base) {v : Value} {l : List (List Int)} (h : RLs w0 v l) (hv : FromB base v) {i : Nat} (hi : i < l.length) :
    ∃ b o c xa xc, v = .slice (some ⟨b, o, none⟩) l.length c ∧ (∀ w, KeptT w0.heap.size P R w0 w → w.cell? ⟨b, o + i, none⟩ = some (.slice xa l[i].length xc) ∧ RInts w (.slice xa l[i].length xc) l[i]) ∧ CapOk (.slice xa l[i].length xc) l[i] := by
  obtain ⟨b, o, c, C, he, hC, hr, hcap⟩ := RSl.at h hi
  obtain ⟨xa, xc, hx, hle⟩ := hcap
  have hb : base ≤ b := hv _ _ _ he
  refine ⟨b, o, c, xa, xc, he, fun w hk => ⟨?_, by rw [← hx]; exact RInts.keptT hk hP hR hr⟩, by rw [← hx]; exact ⟨xa, xc, hx, hle⟩⟩
  have h0 := hC 0 (by omega)
  rw [hx] at h0
  simp only [Nat.mul_one, Nat.add_zero] at h0
  exact keptT_cell hk hP hR h0 (fun _ _ _ _ => by simp only; omega) (.inl ⟨_, _, _, rfl⟩)
theorem rlls_at {P R n base : Nat} {w0 : World} (hP : ∃ es c, w0.heap[P]? = some (.map es c)) (hR : Row w0 R 32 (List.replicate n (.slice none 0 0))) (hRb : R < base) {v : Value} {l : List (List (List Int))} (h : RLLs base w0 v l) (hv : FromB base v) {i : Nat} (hi : i < l.length) :
    ∃ b o c xa xc, v = .slice (some ⟨b, o, none⟩) l.length c ∧ (∀ w, KeptT w0.heap.size P R w0 w → w.cell? ⟨b, o + i, none⟩ = some (.slice xa l[i].length xc)) ∧ RLs w0 (.slice xa l[i].length xc) l[i] ∧ FromB base (.slice xa l[i].length xc) := by
  obtain ⟨b, o, c, C, he, hC, hr, hfb⟩ := RSl.at h hi
  obtain ⟨xa, xc, hx, hle⟩ := RSl.form hr
  have hb : base ≤ b := hv _ _ _ he
  refine ⟨b, o, c, xa, xc, he, fun w hk => ?_, by rw [← hx]; exact hr, by rw [← hx]; exact hfb⟩
  have h0 := hC 0 (by omega)
  rw [hx] at h0
  simp only [Nat.mul_one, Nat.add_zero] at h0
  exact keptT_cell hk hP hR h0 (fun _ _ _ _ => by simp only; omega) (.inl ⟨_, _, _, rfl⟩)

/-- what is known when a function's live values have been told -/
structure Told (f : LFlow) (w W2 : World) (n M P R : Nat) (bv lv av : Value) (Ls : List (List Int)) (LLs : List (List (List Int))) : Prop where
  below : Below w.heap.size w W2
  size : w.heap.size + 4 ≤ W2.heap.size
  flow : W2.heap[w.heap.size]? = some (.cells (f.cells bv) 24 (0, 0))
  map : W2.heap[P]? = some (.map #[] 0)
  row : Row W2 R 32 (List.replicate n (.slice none 0 0))
  box : W2.heap[M]? = some (.cells #[.map (some P), .slice (some ⟨R, 0, none⟩) n n] 60 (0, 0))
  live : IsLive f W2 lv Ls
  lfrom : FromB (w.heap.size + 4) lv
  all : ∃ base, w.heap.size + 4 ≤ base ∧ IsAll f base W2 av LLs
  lo : w.heap.size < M ∧ w.heap.size < P ∧ w.heap.size < R ∧ R < w.heap.size + 4
  may : mayB f.blocks = true
  pl : ∀ v ∈ placesL f.blocks, v < n

section
variable {f : LFlow} {w W2 : World} {n M P R : Nat} {bv lv av : Value} {Ls : List (List Int)} {LLs : List (List (List Int))}
theorem Told.rest (h : Told f w W2 n M P R bv lv av Ls LLs) : MeetsPost w.heap.size W2.heap.size M P R n [] (fun p => ∃ i, i < 0 ∧ BlkM f i p) W2 W2 := by
  obtain ⟨l1, l2, l3, l4⟩ := h.lo
  refine ⟨[], List.replicate n (.slice none 0 0), List.replicate n [], ⟨h.box, ?_, h.row, by simp, by simp, ⟨by simp, fun i x l h1 h2 => ?_, fun i j x y _ h1 h2 => ?_⟩, ⟨by omega, by omega, by omega, by have := h.size; omega, Nat.le_refl _⟩, by simp, fun a l hl => ?_, by simp⟩, by simp, KeptT.refl _ _ _ _⟩
  · exact ⟨#[], 0, h.map, by simp, by simp, by simp⟩
  · obtain rfl := List.eq_of_mem_replicate (List.mem_of_getElem? h1)
    obtain rfl := List.eq_of_mem_replicate (List.mem_of_getElem? h2)
    exact OwnInts.nil _ _
  · obtain rfl := List.eq_of_mem_replicate (List.mem_of_getElem? h1)
    exact .inl rfl
  · obtain rfl := List.eq_of_mem_replicate (List.mem_of_getElem? hl)
    simp
theorem Told.kbelow (h : Told f w W2 n M P R bv lv av Ls LLs) {w' : World} (hk : KeptT W2.heap.size P R W2 w') : Below w.heap.size w w' := by
  obtain ⟨l1, l2, l3, l4⟩ := h.lo
  have hs := h.size
  exact h.below.trans ⟨hk.os, hk.tape, hk.output, hk.size, fun k hlt => hk.block k (by omega) (by omega) (by omega)⟩
theorem Told.kflow (h : Told f w W2 n M P R bv lv av Ls LLs) {w' : World} (hk : KeptT W2.heap.size P R W2 w') : w'.heap[w.heap.size]? = some (.cells (f.cells bv) 24 (0, 0)) := by
  obtain ⟨l1, l2, l3, l4⟩ := h.lo
  have hs := h.size
  exact (hk.block _ (by omega) (by omega) (by omega)).trans h.flow
theorem Told.inn (h : Told f w W2 n M P R bv lv av Ls LLs) {v : Int} (hv : v ∈ allUses f.blocks) : 0 ≤ v ∧ v < n :=
  ⟨(may_uses h.may v hv).1, h.pl v (uses_places hv)⟩
theorem Told.live_at {g m c : Nat} (h : Told f w W2 n M P R bv (.slice (some ⟨g, 0, none⟩) m c) av Ls LLs) {k : Nat} (hk : k < f.blocks.length) :
    ∃ xa xc, ∃ l : List Int, (∀ x, x ∈ l ↔ LiveS f.blocks k x) ∧ (∀ v ∈ l, 0 ≤ v ∧ v < n) ∧ CapOk (.slice xa l.length xc) l ∧ ∀ w', KeptT W2.heap.size P R W2 w' → w'.cell? ⟨g, k, none⟩ = some (.slice xa l.length xc) ∧ RInts w' (.slice xa l.length xc) l := by
  have hk' : k < Ls.length := by rw [h.live.2.1]; exact hk
  obtain ⟨b, o, c', xa, xc, he, hw, hcap⟩ := rls_at ⟨_, _, h.map⟩ h.row h.lo.2.2.2 h.live.1 h.lfrom hk'
  obtain ⟨⟨rfl, rfl⟩, _, _⟩ : (g = b ∧ 0 = o) ∧ m = Ls.length ∧ c = c' := by simpa using he
  have hm := (h.live.2.2 k _ (List.getElem?_eq_getElem hk')).2
  refine ⟨xa, xc, Ls[k], hm, fun v hv => h.inn (LiveS_uses ((hm v).1 hv)), hcap, fun w' hw' => ?_⟩
  have := hw w' hw'
  rwa [Nat.zero_add] at this
theorem Told.all_at {aa : Option Addr} {m c : Nat} (h : Told f w W2 n M P R bv lv (.slice aa m c) Ls LLs) {k : Nat} (hk : k < f.blocks.length) :
    ∃ b o b' o' xc, aa = some ⟨b, o, none⟩ ∧ (∀ w', KeptT W2.heap.size P R W2 w' → w'.cell? ⟨b, o + k, none⟩ = some (.slice (some ⟨b', o', none⟩) (f.blocks[k].ins.length + 1) xc)) ∧
      ∀ j, j < f.blocks[k].ins.length + 1 → ∃ ya yc, ∃ l : List Int, (∀ x, x ∈ l ↔ AfterS f.blocks[k] (LiveS f.blocks) j x) ∧ (∀ v ∈ l, 0 ≤ v ∧ v < n) ∧ CapOk (.slice ya l.length yc) l ∧ ∀ w', KeptT W2.heap.size P R W2 w' → w'.cell? ⟨b', o' + j, none⟩ = some (.slice ya l.length yc) ∧ RInts w' (.slice ya l.length yc) l := by
  obtain ⟨base, hba, hfr, hll, hlen, hall⟩ := h.all
  have hlo := h.lo.2.2.2
  have hk' : k < LLs.length := by rw [hlen]; exact hk
  obtain ⟨b, o, c', xa, xc, he, hw, hrl, hfb⟩ := rlls_at ⟨_, _, h.map⟩ h.row (show R < base by omega) hll hfr hk'
  obtain ⟨rfl, _, _⟩ : aa = some ⟨b, o, none⟩ ∧ m = LLs.length ∧ c = c' := by simpa using he
  obtain ⟨hl1, hl2⟩ := hall k _ _ (List.getElem?_eq_getElem hk) (List.getElem?_eq_getElem hk')
  obtain ⟨b', o', _, _, _, he', _⟩ := rls_at ⟨_, _, h.map⟩ h.row (show R < base by omega) hrl hfb (show 0 < LLs[k].length by omega)
  obtain ⟨rfl, _⟩ : xa = some ⟨b', o', none⟩ ∧ xc = _ := by simpa using he'
  refine ⟨b, o, b', o', xc, rfl, fun w' hw' => by rw [← hl1]; exact hw w' hw', fun j hj => ?_⟩
  obtain ⟨b2, o2, c2, ya, yc, he2, hw2, hcap⟩ := rls_at ⟨_, _, h.map⟩ h.row (show R < base by omega) hrl hfb (show j < LLs[k].length by omega)
  obtain ⟨⟨rfl, rfl⟩, _⟩ : (b' = b2 ∧ o' = o2) ∧ xc = c2 := by simpa using he2
  have hm := (hl2 j _ (List.getElem?_eq_getElem (by omega))).2
  exact ⟨ya, yc, _, hm, fun v hv => h.inn (AfterS_uses (List.getElem_mem hk) ((hm v).1 hv)), hcap, hw2⟩
end

end Go.Proofs.Ytdlcpmjhngfgkaa
