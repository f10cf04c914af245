import Derived.Test.YtdlcpmjhngfgkaaD8
namespace Go.Proofs.Ytdlcpmjhngfgkaa
open Go.RowKit Go.Shelf
attribute [local go_sem] Oper.semAt_some

/-! ### chapter 10's own answer -/
/-- what a kind has, as letters -/
def hasS (k : Int) : ByteArray :=
  if k = 1 then ⟨#[68, 78]⟩ else if k = 2 then ⟨#[68, 65]⟩ else if k = 3 then ⟨#[68, 65, 79]⟩ else if k = 4 then ⟨#[68, 65, 66, 84]⟩ else if k = 5 then ⟨#[68, 65, 82]⟩
  else if k = 6 then ⟨#[65, 66, 82]⟩ else if k = 7 then ⟨#[68]⟩ else if k = 8 then ⟨#[65]⟩ else if k = 9 then ⟨#[68, 70]⟩ else ⟨#[]⟩

theorem hasS_cases (k : Int) : (k = 1 ∧ hasS k = ⟨#[68, 78]⟩) ∨ (k = 2 ∧ hasS k = ⟨#[68, 65]⟩) ∨ (k = 3 ∧ hasS k = ⟨#[68, 65, 79]⟩) ∨ (k = 4 ∧ hasS k = ⟨#[68, 65, 66, 84]⟩) ∨ (k = 5 ∧ hasS k = ⟨#[68, 65, 82]⟩) ∨
    (k = 6 ∧ hasS k = ⟨#[65, 66, 82]⟩) ∨ (k = 7 ∧ hasS k = ⟨#[68]⟩) ∨ (k = 8 ∧ hasS k = ⟨#[65]⟩) ∨ (k = 9 ∧ hasS k = ⟨#[68, 70]⟩) ∨ ((k < 1 ∨ 9 < k) ∧ hasS k = ⟨#[]⟩) := by
  have hk : k = 1 ∨ k = 2 ∨ k = 3 ∨ k = 4 ∨ k = 5 ∨ k = 6 ∨ k = 7 ∨ k = 8 ∨ k = 9 ∨ (k < 1 ∨ 9 < k) := by omega
  rcases hk with rfl | rfl | rfl | rfl | rfl | rfl | rfl | rfl | rfl | h
  · exact .inl ⟨rfl, rfl⟩
  · exact .inr (.inl ⟨rfl, rfl⟩)
  · exact .inr (.inr (.inl ⟨rfl, rfl⟩))
  · exact .inr (.inr (.inr (.inl ⟨rfl, rfl⟩)))
  · exact .inr (.inr (.inr (.inr (.inl ⟨rfl, rfl⟩))))
  · exact .inr (.inr (.inr (.inr (.inr (.inl ⟨rfl, rfl⟩)))))
  · exact .inr (.inr (.inr (.inr (.inr (.inr (.inl ⟨rfl, rfl⟩))))))
  · exact .inr (.inr (.inr (.inr (.inr (.inr (.inr (.inl ⟨rfl, rfl⟩)))))))
  · exact .inr (.inr (.inr (.inr (.inr (.inr (.inr (.inr (.inl ⟨rfl, rfl⟩))))))))
  · refine .inr (.inr (.inr (.inr (.inr (.inr (.inr (.inr (.inr ⟨h, ?_⟩))))))))
    unfold hasS
    rw [if_neg (by omega), if_neg (by omega), if_neg (by omega), if_neg (by omega), if_neg (by omega), if_neg (by omega), if_neg (by omega), if_neg (by omega), if_neg (by omega)]

def RetStr (w : World) (s : ByteArray) (e : Ending) (w' : World) : Prop := e = .returned (.string s) ∧ Below w.heap.size w w'

set_option maxHeartbeats 1000000 in
theorem has10_any (k : Int) (w : World) : Calls Try.prog 44 #[I k] w (RetStr w (hasS k)) := by
  rcases hasS_cases k with ⟨h, g⟩ | ⟨h, g⟩ | ⟨h, g⟩ | ⟨h, g⟩ | ⟨h, g⟩ | ⟨h, g⟩ | ⟨h, g⟩ | ⟨h, g⟩ | ⟨h, g⟩ | ⟨h, g⟩
  case inr.inr.inr.inr.inr.inr.inr.inr.inr =>
    have G := Lib.hid g
    clear g
    rcases h with h | h
    · go_enter Try.func44, Try.ntmps44
      go_wp2
      go_ret
      exact ⟨by rw [G.out]; rfl, Below.refl _ _⟩
    · have h1 : ¬ k < 1 := by omega
      go_enter Try.func44, Try.ntmps44
      go_wp2
      go_ret
      exact ⟨by rw [G.out]; rfl, Below.refl _ _⟩
  all_goals
    subst h
    have G := Lib.hid g
    clear g
    go_enter Try.func44, Try.ntmps44
    go_wp2
    go_ret
    exact ⟨by rw [G.out]; rfl, below_a1 _ _⟩
theorem has10_at (k : Int) (s : ByteArray) (w : World) (h : hasS k = s) : Calls Try.prog 44 #[I k] w (RetStr w s) := h ▸ has10_any k w

/-- is a letter in a text? -/
def inS (s : ByteArray) (c : Int) : Bool := s.data.toList.any fun b => (b.toNat : Int) == c
theorem take_snocB (s : ByteArray) (k : Nat) (h : k < s.size) : s.data.toList.take (k + 1) = s.data.toList.take k ++ [s[k]] := by
  rw [List.take_succ_eq_append_getElem (by simpa using h)]; rfl

set_option maxHeartbeats 1000000 in
theorem within10_any (s : ByteArray) (c : Int) (w : World) (hs : s.size ≤ 1000) (hc : 0 ≤ c ∧ c ≤ 255) : Calls Try.prog 43 #[.string s, .int .u8 c] w fun e w' => e = .returned (.bool (inS s c)) ∧ w = w' := by
  obtain ⟨hc1, hc2⟩ := hc
  go_enter Try.func43, Try.ntmps43
  go_wp2
  go_loopg [5] s.size (fun gh i wr => ∃ k : Nat, gh + k = s.size ∧ i = I k ∧ w = wr ∧ Hid (((s.data.toList.take k).any fun b => (b.toNat : Int) == c) = false))
  case atStart => exact ⟨0, by omega, rfl, rfl, Lib.hid (by simp)⟩
  case round =>
    obtain ⟨k, hg, rfl, rfl, hn⟩ := hrel
    by_cases hlt : k < s.size
    · have hts := take_snocB s k hlt
      have HT := Lib.hid hts
      clear hts
      by_cases hq : (s[k].toNat : Int) = c
      · have hq' : ((s[k].toNat : Int) == c) = true := by simp [hq]
        have HA : Hid (inS s c = true) := Lib.hid (by
          unfold inS
          rw [← List.take_append_drop (k + 1) s.data.toList, HT.out]
          simp [hq])
        clear hq
        go_wp2
        go_ret
        exact ⟨by rw [HA.out]; rfl, rfl⟩
      · have hq' : ((s[k].toNat : Int) == c) = false := by simp [hq]
        have HA : Hid (((s.data.toList.take (k + 1)).any fun b => (b.toNat : Int) == c) = false) := Lib.hid (by
          rw [HT.out, List.any_append, hn.out]
          simp [hq])
        clear hq
        go_wp2
        go_roundg (s.size - (k + 1))
        case measure => omega
        case rel => exact ⟨k + 1, by omega, by go_num, rfl, HA⟩
    · have HA : Hid (inS s c = false) := Lib.hid (by
        have h := hn.out
        rw [List.take_of_length_le (by simp; omega)] at h
        exact h)
      go_wp2
      go_ret
      exact ⟨by rw [HA.out]; rfl, rfl⟩
theorem within10_at (s : ByteArray) (c : Int) (r : Bool) (w : World) (hs : s.size ≤ 1000) (hc : 0 ≤ c ∧ c ≤ 255) (h : inS s c = r) : Calls Try.prog 43 #[.string s, .int .u8 c] w fun e w' => e = .returned (.bool r) ∧ w = w' := h ▸ within10_any s c w hs hc

set_option maxHeartbeats 1000000 in
/-- what an instruction sets -/
theorem sets10_any (k d a b op n : Int) (nm : ByteArray) (ag : Value) (w : World) :
    Calls Try.prog 25 #[.agg #[I k, I d, I a, I b, I op, I n, .string nm, ag]] w (RetInt w (setsI k d)) := by
  rcases hasS_cases k with ⟨h, g⟩ | ⟨h, g⟩ | ⟨h, g⟩ | ⟨h, g⟩ | ⟨h, g⟩ | ⟨h, g⟩ | ⟨h, g⟩ | ⟨h, g⟩ | ⟨h, g⟩ | ⟨h, g⟩
  all_goals
    have G := Lib.hid g
    have H := Lib.hid h
    clear g h
    go_enter Try.func25, Try.ntmps25
    go_wp2_with (first
      | (go_at_call 44; refine (has10_at _ _ _ G.out).mono ?_; rintro e w1 ⟨rfl, hb1⟩; have hk1 := (hb1.block w.heap.size (by simp)).trans (heap_new w _); have e1 := cell_of_block hk1 1; simp only [List.getElem?_toArray, List.getElem?_cons_succ, List.getElem?_cons_zero] at e1; have HB1 := Lib.hid hb1; clear hb1 hk1)
      | (go_at_call 43; refine (within10_at _ _ true _ (by decide) (by omega) (by decide +kernel)).mono ?_; rintro e w' ⟨rfl, rfl⟩)
      | (go_at_call 43; refine (within10_at _ _ false _ (by decide) (by omega) (by decide +kernel)).mono ?_; rintro e w' ⟨rfl, rfl⟩))
    go_ret
    refine ⟨ret_int ?_, (below_a1 w _).trans (HB1.out.mono (by simp))⟩
    have h := H.out
    unfold setsI
    first
    | (rw [if_neg (by omega)]; done)
    | (rw [if_pos (by omega)])

set_option maxHeartbeats 1000000 in
/-- which blocks an end leads to -/
theorem next10_any (k a to els : Int) (w : World) : Calls Try.prog 54 #[.agg #[I k, I a, I to, I els]] w (RetInts w (nextL k to els)) := by
  by_cases h1 : k = 1
  · subst h1
    go_enter Try.func54, Try.ntmps54
    go_wp2
    go_ret
    exact RetInts.one (by simp [nextL])
  · by_cases h2 : k = 2
    · subst h2
      by_cases h3 : to = els
      · subst h3
        go_enter Try.func54, Try.ntmps54
        go_wp2
        go_ret
        exact RetInts.one (by simp [nextL])
      · have h4 : (to == els) = false := by simpa using h3
        go_enter Try.func54, Try.ntmps54
        go_wp2
        go_ret
        exact RetInts.two (by simp [nextL, h3])
    · have h4 : (k == 1) = false := by simpa using h1
      have h5 : (k == 2) = false := by simpa using h2
      go_enter Try.func54, Try.ntmps54
      go_wp2
      go_ret
      exact RetInts.none (by simp [nextL, h1, h2])

def wantsB (k : Int) : Bool := decide (2 ≤ k) && decide (k ≤ 4)
set_option maxHeartbeats 1000000 in
theorem wants13_any (k a to els : Int) (w : World) : Calls Try.prog 55 #[.agg #[I k, I a, I to, I els]] w fun e w' => e = .returned (.bool (wantsB k)) ∧ Below w.heap.size w w' := by
  have hk : (k < 2) ∨ (2 ≤ k ∧ k ≤ 4) ∨ (2 ≤ k ∧ 4 < k) := by omega
  rcases hk with h | ⟨h, h2⟩ | ⟨h, h2⟩
  · have h3 : ¬ 2 ≤ k := by omega
    go_enter Try.func55, Try.ntmps55
    go_wp2
    go_ret
    exact ⟨by simp [wantsB]; omega, below_a1 _ _⟩
  · go_enter Try.func55, Try.ntmps55
    go_wp2
    go_ret
    exact ⟨by simp [wantsB, *], below_a1 _ _⟩
  · have h3 : ¬ k ≤ 4 := by omega
    go_enter Try.func55, Try.ntmps55
    go_wp2
    go_ret
    exact ⟨by simp [wantsB, *], below_a1 _ _⟩
end Go.Proofs.Ytdlcpmjhngfgkaa

namespace Go.Proofs.Ytdlcpmjhngfgkaa
open Go.RowKit Go.Shelf
attribute [local go_sem] Oper.semAt_some

set_option maxRecDepth 100000 in
set_option maxHeartbeats 1000000 in
/-- what an instruction uses -/
theorem uses10_any (k d a b op n : Int) (nm : ByteArray) (ag : Value) (ys : List Int) (w : World) (hag : RInts w ag ys) (hsz : ys.length ≤ 1000000000000) :
    Calls Try.prog 40 #[.agg #[I k, I d, I a, I b, I op, I n, .string nm, ag]] w (RetInts w (UseL k a b ys)) := by
  rcases hasS_cases k with ⟨h, g⟩ | ⟨h, g⟩ | ⟨h, g⟩ | ⟨h, g⟩ | ⟨h, g⟩ | ⟨h, g⟩ | ⟨h, g⟩ | ⟨h, g⟩ | ⟨h, g⟩ | ⟨h, g⟩
  all_goals
    have G := Lib.hid g
    have H := Lib.hid h
    have HAG := Lib.hid hag
    clear g h hag
    go_enter Try.func40, Try.ntmps40
    go_wp2_with (first
      | (go_at_call 44; refine (has10_at _ _ _ G.out).mono ?_; rintro e w1 ⟨rfl, hb1⟩; have hz1 := hb1.size; simp only [World.size_alloc] at hz1; have hk1 := (hb1.block w.heap.size (by simp)).trans (heap_new w _); have e2 := cell_of_block hk1 2; have e3 := cell_of_block hk1 3; have e7 := cell_of_block hk1 7; simp only [List.getElem?_toArray, List.getElem?_cons_succ, List.getElem?_cons_zero] at e2 e3 e7; have HK1 := Lib.hid hk1; have HB1 : Hid (Below w.heap.size w w1) := Lib.hid ((below_a1 w _).trans (hb1.mono (by simp))); clear hb1 hk1)
      | (go_at_call 43; refine (within10_at _ _ true _ (by decide) (by omega) (by decide +kernel)).mono ?_; rintro e w' ⟨rfl, rfl⟩)
      | (go_at_call 43; refine (within10_at _ _ false _ (by decide) (by omega) (by decide +kernel)).mono ?_; rintro e w' ⟨rfl, rfl⟩)
      | (at_builtin; refine wpList_app1 rfl (.tmp 10) (.tmp 13) rfl (w.heap.size + 1) (.slice none 0 0) [] rfl (OwnInts.nil _ _) w1.heap.size a rfl (by rw [cell_of_block (heap_new _ _)]; rfl) (by decide) (by simp; omega) ?_; intro g2 cap2 w2 own2 grow2 at2 lt2; have hk2 := grown_old grow2 (heap_old _ _ HK1.out) (by simp [Value.ownBlock]); have c3 := cell_of_block hk2 3; simp only [List.getElem?_toArray, List.getElem?_cons_succ, List.getElem?_cons_zero] at c3; have HB2 : Hid (Below w.heap.size w w2) := Lib.hid ((HB1.out.alloc (by omega) _).grown grow2 (by simp; omega) (by simp [Value.ownBlock])); have hz2 := grow2.size; simp only [World.size_alloc] at hz2; have OWN2 := Lib.hid own2; have GROW2 := Lib.hid grow2; have AT2 := Lib.hid at2; clear own2 grow2 at2 hk2)
      | (at_builtin; refine wpList_app1 rfl (.tmp 17) (.tmp 20) rfl (w.heap.size + 1) (.slice (some ⟨g2, 0, none⟩) 1 cap2) [a] rfl (World.ownsRow.alloc OWN2.out _) w2.heap.size b rfl (by rw [cell_of_block (heap_new _ _)]; rfl) (by simp) (by simp; omega) ?_; intro g3 cap3 w3 own3 grow3 at3 lt3; have HB3 : Hid (Below w.heap.size w w3) := Lib.hid ((HB2.out.alloc (by omega) _).grown grow3 (by simp; omega) (fun k e => by have := (ownsRow_base OWN2.out k e).1; omega)); have OWN3 := Lib.hid own3; clear own3 grow3 at3)
      | (at_builtin; refine wpList_appN rfl (.tmp 24) (.tmp 26) rfl (w.heap.size + 1) (.slice none 0 0) [] rfl (OwnInts.nil _ _) ag ys rfl (HAG.out.below HB1.out) (by simp; omega) (by omega) ?_; intro v1 w2 own2 grow2; have HB2 : Hid (Below w.heap.size w w2) := Lib.hid (HB1.out.grown grow2 (by omega) (by simp [Value.ownBlock])); have OWN2 := Lib.hid own2; clear own2 grow2))
  all_goals go_ret
  · exact ⟨_, rfl, by simpa [UseL, H.out] using OwnInts.nil _ _, HB1.out⟩
  · exact ⟨_, rfl, by simpa [UseL, H.out] using OWN2.out.mono (by omega), HB2.out⟩
  · exact ⟨_, rfl, by simpa [UseL, H.out] using OWN2.out.mono (by omega), HB2.out⟩
  · exact ⟨_, rfl, by simpa [UseL, H.out] using OWN3.out.mono (by omega), HB3.out⟩
  · exact ⟨_, rfl, by simpa [UseL, H.out] using OWN2.out.mono (by omega), HB2.out⟩
  · exact ⟨_, rfl, by simpa [UseL, H.out] using OWN3.out.mono (by omega), HB3.out⟩
  · exact ⟨_, rfl, by simpa [UseL, H.out] using OwnInts.nil _ _, HB1.out⟩
  · exact ⟨_, rfl, by simpa [UseL, H.out] using OWN2.out.mono (by omega), HB2.out⟩
  · exact ⟨_, rfl, by simpa [UseL, H.out] using OWN2.out.mono (by omega), HB2.out⟩
  · refine ⟨_, rfl, ?_, HB1.out⟩
    have h := H.out
    unfold UseL
    rw [if_neg (by omega), if_neg (by omega), if_neg (by omega)]
    exact OwnInts.nil _ _
end Go.Proofs.Ytdlcpmjhngfgkaa

namespace Go.Proofs.Ytdlcpmjhngfgkaa
open Go.RowKit Go.Shelf
attribute [local go_sem] Oper.semAt_some

/-- a rising list of what S says -/
structure Ris (l : List Int) (S : Int → Prop) : Prop where
  sorted : l.Pairwise (· < ·)
  mem : ∀ v, v ∈ l ↔ S v
theorem Ris.nodup {l : List Int} {S : Int → Prop} (h : Ris l S) : l.Nodup := h.sorted.imp (fun h => by omega)
theorem Ris.iff {l : List Int} {S S' : Int → Prop} (h : Ris l S) (hs : ∀ v, S v ↔ S' v) : Ris l S' := ⟨h.sorted, fun v => (h.mem v).trans (hs v)⟩
theorem Ris.filter {l : List Int} {S : Int → Prop} (h : Ris l S) (n : Int) : Ris (l.filter (· != n)) (fun v => S v ∧ v ≠ n) :=
  ⟨h.sorted.sublist List.filter_sublist, fun v => by rw [List.mem_filter, h.mem v]; simp⟩
theorem Ris.len {l : List Int} {S : Int → Prop} (h : Ris l S) {U : List Int} (hU : ∀ v, S v → v ∈ U) : l.length ≤ U.length := nodup_length_le h.nodup (fun x hx => hU x ((h.mem x).1 hx))

/-- what a call hands back: a rising list, new -/
def RetRis (w : World) (S : Int → Prop) (e : Ending) (w' : World) : Prop := ∃ v l, e = .returned v ∧ OwnInts w' w.heap.size v l ∧ Ris l S ∧ Below w.heap.size w w'

/-- while one more is put into a rising list -/
structure WithInv (n : Int) (pre out : List Int) (put : Bool) : Prop where
  sorted : out.Pairwise (· < ·)
  mem : ∀ v, v ∈ out ↔ v ∈ pre ∨ (put = true ∧ v = n)
  lo : put = false → ∀ v ∈ pre, v < n
  hi : put = true → ∃ y ∈ pre, n ≤ y
  len : out.length ≤ pre.length + 1
theorem WithInv.zero (n : Int) : WithInv n [] [] false := ⟨List.Pairwise.nil, by simp, by simp, by simp, by simp⟩
theorem WithInv.new {n x : Int} {pre out : List Int} (h : WithInv n pre out false) (hs : (pre ++ [x]).Pairwise (· < ·)) (hx : n < x) : WithInv n (pre ++ [x]) (out ++ [n] ++ [x]) true := by
  have hlo := h.lo rfl
  have ho : ∀ v, v ∈ out ↔ v ∈ pre := fun v => by rw [h.mem v]; simp
  have hl := nodup_length_le (h.sorted.imp (fun h => by omega)) (fun x hx => (ho x).1 hx)
  refine ⟨?_, fun v => ?_, (by simp), fun _ => ⟨x, by simp, by omega⟩, by simp; omega⟩
  · rw [List.append_assoc, List.pairwise_append]
    refine ⟨h.sorted, by simp [hx], fun a ha b hb => ?_⟩
    have := hlo a ((ho a).1 ha)
    simp at hb
    rcases hb with rfl | rfl <;> omega
  · simp [ho]
    constructor
    · rintro (h | h | h) <;> simp [h]
    · rintro ((h | h) | h) <;> simp [h]
theorem WithInv.same {n : Int} {pre out : List Int} (h : WithInv n pre out false) (_hs : (pre ++ [n]).Pairwise (· < ·)) : WithInv n (pre ++ [n]) (out ++ [n]) true := by
  have hlo := h.lo rfl
  have ho : ∀ v, v ∈ out ↔ v ∈ pre := fun v => by rw [h.mem v]; simp
  have hl := nodup_length_le (h.sorted.imp (fun h => by omega)) (fun x hx => (ho x).1 hx)
  refine ⟨?_, fun v => ?_, (by simp), fun _ => ⟨n, by simp, by omega⟩, by simp; omega⟩
  · rw [List.pairwise_append]
    refine ⟨h.sorted, by simp, fun a ha b hb => ?_⟩
    have := hlo a ((ho a).1 ha)
    simp at hb
    omega
  · simp [ho]
theorem WithInv.low {n x : Int} {pre out : List Int} (h : WithInv n pre out false) (hs : (pre ++ [x]).Pairwise (· < ·)) (hx : x < n) : WithInv n (pre ++ [x]) (out ++ [x]) false := by
  have hlo := h.lo rfl
  have ho : ∀ v, v ∈ out ↔ v ∈ pre := fun v => by rw [h.mem v]; simp
  have hl := nodup_length_le (h.sorted.imp (fun h => by omega)) (fun x hx => (ho x).1 hx)
  refine ⟨?_, fun v => ?_, fun _ v hv => ?_, (by simp), by simp; omega⟩
  · rw [List.pairwise_append]
    refine ⟨h.sorted, by simp, fun a ha b hb => ?_⟩
    simp at hb
    subst hb
    exact (List.pairwise_append.1 hs).2.2 a ((ho a).1 ha) b (by simp)
  · simp [ho]
  · simp at hv
    rcases hv with hv | rfl
    · exact hlo v hv
    · exact hx
theorem WithInv.high {n x : Int} {pre out : List Int} (h : WithInv n pre out true) (hs : (pre ++ [x]).Pairwise (· < ·)) : n < x ∧ WithInv n (pre ++ [x]) (out ++ [x]) true := by
  obtain ⟨y, hy, hny⟩ := h.hi rfl
  have hp := (List.pairwise_append.1 hs).2.2
  have hyx := hp y hy x (by simp)
  refine ⟨by omega, ?_, fun v => ?_, (by simp), fun _ => ⟨y, by simp [hy], hny⟩, ?_⟩
  · rw [List.pairwise_append]
    refine ⟨h.sorted, by simp, fun a ha b hb => ?_⟩
    simp at hb
    subst hb
    rcases (h.mem a).1 ha with h' | ⟨_, rfl⟩
    · exact hp a h' b (by simp)
    · omega
  · simp [h.mem]
    constructor
    · rintro ((h | h) | h) <;> simp [h]
    · rintro ((h | h) | h) <;> simp [h]
  · have := h.len; simp; omega
theorem WithInv.end_no {n : Int} {pre out : List Int} (h : WithInv n pre out false) {S : Int → Prop} (hr : Ris pre S) : Ris (out ++ [n]) (fun v => v = n ∨ S v) := by
  have hlo := h.lo rfl
  refine ⟨?_, fun v => ?_⟩
  · rw [List.pairwise_append]
    refine ⟨h.sorted, by simp, fun a ha b hb => ?_⟩
    simp at hb
    subst hb
    rcases (h.mem a).1 ha with h' | ⟨h', _⟩
    · exact hlo a h'
    · cases h'
  · simp [h.mem, hr.mem, or_comm]
theorem WithInv.end_yes {n : Int} {pre out : List Int} (h : WithInv n pre out true) {S : Int → Prop} (hr : Ris pre S) : Ris out (fun v => v = n ∨ S v) :=
  ⟨h.sorted, fun v => by simp [h.mem, hr.mem, or_comm]⟩
theorem take_pw {l : List Int} (h : l.Pairwise (· < ·)) {k : Nat} (hk : k < l.length) {x : Int} (hx : x = l[k]) : (l.take k ++ [x]).Pairwise (· < ·) ∧ l.take (k + 1) = l.take k ++ [x] := by
  have : l.take (k + 1) = l.take k ++ [x] := by rw [List.take_add_one, List.getElem?_eq_getElem hk, hx]; rfl
  exact ⟨this ▸ h.sublist (List.take_sublist _ _), this⟩

set_option maxRecDepth 100000 in
set_option maxHeartbeats 2000000 in
/-- a rising list with one more -/
theorem with13_any (lv : Value) (l : List Int) (S : Int → Prop) (n : Int) (w : World) (hl : RInts w lv l) (hs : Ris l S) (hsz : l.length ≤ 5000000000000) :
    Calls Try.prog 56 #[lv, I n] w (RetRis w (fun v => v = n ∨ S v)) := by
  obtain ⟨a0, c0, rfl, _⟩ := RSl.form hl
  have HL := Lib.hid hl
  have HS := Lib.hid hs
  clear hl hs
  go_enter Try.func56, Try.ntmps56
  go_wp2
  go_loopg [5, 6, 7] l.length (fun gh ov pv i wr => ∃ (k : Nat) (out : List Int) (put : Bool), gh + k = l.length ∧ i = I k ∧ pv = .bool put ∧ Below w.heap.size w wr ∧ OwnInts wr w.heap.size ov out ∧ WithInv n (l.take k) out put)
  case atStart => exact ⟨0, [], false, rfl, rfl, rfl, Below.refl _ _, OwnInts.nil _ _, WithInv.zero n⟩
  case round =>
    obtain ⟨k, out, put, hg, rfl, rfl, hb, ho, hi⟩ := hrel
    obtain ⟨wo, rfl⟩ : ∃ wo, wo = wr := ⟨_, rfl⟩
    have HB := Lib.hid hb
    have HO := Lib.hid ho
    have hz := hb.size
    have hnb : ∀ k, u5.ownBlock = some k → w.heap.size ≤ k ∧ k < wo.heap.size := ownsRow_base ho
    have HNB := Lib.hid hnb
    have hol := hi.len
    have htk : (l.take k).length ≤ l.length := List.length_take_le' _ _
    have HI := Lib.hid hi
    clear hb ho hi hnb
    by_cases hlt : k < l.length
    · obtain ⟨b, o, c, he, hcw, _⟩ := RInts.at HL.out hlt
      obtain ⟨rfl, rfl⟩ : a0 = some ⟨b, o, none⟩ ∧ c0 = c := by simpa using he
      obtain ⟨x, hx⟩ : ∃ x, x = l[k] := ⟨_, rfl⟩
      rw [← hx] at hcw
      obtain ⟨hpw, htk1⟩ := take_pw HS.out.sorted hlt hx
      have HPW := Lib.hid hpw
      have HT := Lib.hid htk1
      have hol' : out.length ≤ 5000000000001 := by omega
      have hbw : b < w.heap.size := World.block_lt_of_cell? w _ hcw
      have hc := (HB.out.cell (p := ⟨b, o + k, none⟩) hbw).trans hcw
      have HCW := Lib.hid hcw
      clear he hx hpw htk1 hol htk hcw
      cases put
      · by_cases hxn : x < n
        · have hne : (x != n) = true := by simp; omega
          have hnx : ¬ n ≤ x := by omega
          go_wp2_with (first
            | (at_builtin; refine wpList_app1 rfl (.tmp 34) (.tmp 39) rfl w.heap.size _ out rfl (World.ownsRow.alloc HO.out _) wo.heap.size x rfl (by rw [cell_of_block (heap_new _ _)]; rfl) (by omega) (by simp; omega) ?_; intro g2 cap2 w2 own2 grow2 at2 lt2; have OWN2 := Lib.hid own2; have GROW2 := Lib.hid grow2; clear own2 grow2 at2))
          go_roundg (l.length - (k + 1))
          case measure => omega
          case rel => exact ⟨k + 1, out ++ [x], false, by omega, by go_num, rfl, (HB.out.alloc hz _).grown GROW2.out (by simp; omega) (fun k e => (HNB.out k e).1), OWN2.out, by rw [HT.out]; exact HI.out.low HPW.out hxn⟩
        · have hnx : n ≤ x := by omega
          by_cases hxe : x = n
          · subst hxe
            go_wp2_with (first
              | (at_builtin; refine wpList_app1 rfl (.tmp 24) (.tmp 26) rfl w.heap.size _ out rfl (World.ownsRow.alloc HO.out _) wo.heap.size x rfl (by rw [cell_of_block (heap_new _ _)]; rfl) (by omega) (by simp; omega) ?_; intro g2 cap2 w2 own2 grow2 at2 lt2; have hb2 : Below w.heap.size w w2 := (HB.out.alloc hz _).grown grow2 (by simp; omega) (fun k e => (HNB.out k e).1); have hc2 := (hb2.cell (p := ⟨b, o + k, none⟩) hbw).trans HCW.out; have HB2 := Lib.hid hb2; have OWN2 := Lib.hid own2; clear own2 grow2 at2 hb2))
            go_roundg (l.length - (k + 1))
            case measure => omega
            case rel => exact ⟨k + 1, out ++ [x], true, by omega, by go_num, rfl, HB2.out, OWN2.out, by rw [HT.out]; exact HI.out.same HPW.out⟩
          · have hne : (x != n) = true := by simp; omega
            have hxg : n < x := by omega
            go_wp2_with (first
              | (at_builtin; refine wpList_app1 rfl (.tmp 24) (.tmp 26) rfl w.heap.size _ out rfl (World.ownsRow.alloc HO.out _) wo.heap.size n rfl (by rw [cell_of_block (heap_new _ _)]; rfl) (by omega) (by simp; omega) ?_; intro g2 cap2 w2 own2 grow2 at2 lt2; have hb2 : Below w.heap.size w w2 := (HB.out.alloc hz _).grown grow2 (by simp; omega) (fun k e => (HNB.out k e).1); have hc2 := (hb2.cell (p := ⟨b, o + k, none⟩) hbw).trans HCW.out; have hz2 := hb2.size; have HB2 := Lib.hid hb2; have OWN2 := Lib.hid own2; clear own2 grow2 at2 hb2)
              | (at_builtin; refine wpList_app1 rfl (.tmp 34) (.tmp 39) rfl w.heap.size _ (out ++ [n]) rfl (World.ownsRow.alloc OWN2.out _) w2.heap.size x rfl (by rw [cell_of_block (heap_new _ _)]; rfl) (by simp; omega) (by simp; omega) ?_; intro g3 cap3 w3 own3 grow3 at3 lt3; have HB3 : Hid (Below w.heap.size w w3) := Lib.hid ((HB2.out.alloc hz2 _).grown grow3 (by simp; omega) (fun k e => (ownsRow_base OWN2.out k e).1)); have OWN3 := Lib.hid own3; clear own3 grow3 at3))
            go_roundg (l.length - (k + 1))
            case measure => omega
            case rel => exact ⟨k + 1, out ++ [n] ++ [x], true, by omega, by go_num, rfl, HB3.out, (by have h := OWN3.out; rw [List.length_append] at h; exact h), by rw [HT.out]; exact HI.out.new HPW.out hxg⟩
      · obtain ⟨hxg, hih⟩ := HI.out.high HPW.out
        have HIH := Lib.hid hih
        have hne : (x != n) = true := by simp; omega
        clear hih
        go_wp2_with (first
          | (at_builtin; refine wpList_app1 rfl (.tmp 34) (.tmp 39) rfl w.heap.size _ out rfl (World.ownsRow.alloc HO.out _) wo.heap.size x rfl (by rw [cell_of_block (heap_new _ _)]; rfl) (by omega) (by simp; omega) ?_; intro g2 cap2 w2 own2 grow2 at2 lt2; have OWN2 := Lib.hid own2; have GROW2 := Lib.hid grow2; clear own2 grow2 at2))
        go_roundg (l.length - (k + 1))
        case measure => omega
        case rel => exact ⟨k + 1, out ++ [x], true, by omega, by go_num, rfl, (HB.out.alloc hz _).grown GROW2.out (by simp; omega) (fun k e => (HNB.out k e).1), OWN2.out, by rw [HT.out]; exact HIH.out⟩
    · cases put
      · go_wp2_with (first
          | (at_builtin; refine wpList_app1 rfl (.tmp 43) (.tmp 45) rfl w.heap.size _ out rfl (World.ownsRow.alloc HO.out _) wo.heap.size n rfl (by rw [cell_of_block (heap_new _ _)]; rfl) (by omega) (by simp; omega) ?_; intro g2 cap2 w2 own2 grow2 at2 lt2; have OWN2 := Lib.hid own2; have GROW2 := Lib.hid grow2; clear own2 grow2 at2))
        go_ret
        have h := HI.out
        rw [List.take_of_length_le (by omega)] at h
        exact ⟨_, _, rfl, OWN2.out, h.end_no HS.out, (HB.out.alloc hz _).grown GROW2.out (by simp; omega) (fun k e => (HNB.out k e).1)⟩
      · go_wp2
        go_ret
        have h := HI.out
        rw [List.take_of_length_le (by omega)] at h
        exact ⟨_, _, rfl, HO.out, h.end_yes HS.out, HB.out⟩

set_option maxRecDepth 100000 in
set_option maxHeartbeats 2000000 in
/-- a rising list without one -/
theorem without13_any (lv : Value) (l : List Int) (S : Int → Prop) (n : Int) (w : World) (hl : RInts w lv l) (hs : Ris l S) (hsz : l.length ≤ 5000000000000) :
    Calls Try.prog 57 #[lv, I n] w (RetRis w (fun v => S v ∧ v ≠ n)) := by
  obtain ⟨a0, c0, rfl, _⟩ := RSl.form hl
  have HL := Lib.hid hl
  have HS := Lib.hid hs
  clear hl hs
  go_enter Try.func57, Try.ntmps57
  go_wp2
  go_loopg [5, 6] l.length (fun gh ov i wr => ∃ (k : Nat) (out : List Int), gh + k = l.length ∧ i = I k ∧ Below w.heap.size w wr ∧ OwnInts wr w.heap.size ov out ∧ Hid (out = (l.take k).filter (· != n)))
  case atStart => exact ⟨0, [], rfl, rfl, Below.refl _ _, OwnInts.nil _ _, Lib.hid rfl⟩
  case round =>
    obtain ⟨k, out, hg, rfl, hb, ho, hi⟩ := hrel
    obtain ⟨wo, rfl⟩ : ∃ wo, wo = wr := ⟨_, rfl⟩
    have HB := Lib.hid hb
    have HO := Lib.hid ho
    have hz := hb.size
    have hnb : ∀ k, u5.ownBlock = some k → w.heap.size ≤ k ∧ k < wo.heap.size := ownsRow_base ho
    have HNB := Lib.hid hnb
    have hol : out.length ≤ l.length := by rw [hi.out]; exact Nat.le_trans (List.length_filter_le _ _) (List.length_take_le' _ _)
    clear hb ho hnb
    by_cases hlt : k < l.length
    · obtain ⟨b, o, c, he, hcw, _⟩ := RInts.at HL.out hlt
      obtain ⟨rfl, rfl⟩ : a0 = some ⟨b, o, none⟩ ∧ c0 = c := by simpa using he
      obtain ⟨x, hx⟩ : ∃ x, x = l[k] := ⟨_, rfl⟩
      rw [← hx] at hcw
      obtain ⟨_, htk1⟩ := take_pw HS.out.sorted hlt hx
      have HT := Lib.hid htk1
      have hbw : b < w.heap.size := World.block_lt_of_cell? w _ hcw
      have hc := (HB.out.cell (p := ⟨b, o + k, none⟩) hbw).trans hcw
      clear he hx htk1 hcw
      by_cases hxe : x = n
      · subst hxe
        go_wp2
        go_roundg (l.length - (k + 1))
        case measure => omega
        case rel => exact ⟨k + 1, out, by omega, by go_num, HB.out, HO.out, Lib.hid (by rw [HT.out, List.filter_append, hi.out]; simp)⟩
      · have hne : (x != n) = true := by simpa using hxe
        have HNE := Lib.hid hxe
        clear hxe
        go_wp2_with (first
          | (at_builtin; refine wpList_app1 rfl (.tmp 19) (.tmp 24) rfl w.heap.size _ out rfl (World.ownsRow.alloc HO.out _) wo.heap.size x rfl (by rw [cell_of_block (heap_new _ _)]; rfl) (by omega) (by simp; omega) ?_; intro g2 cap2 w2 own2 grow2 at2 lt2; have OWN2 := Lib.hid own2; have GROW2 := Lib.hid grow2; clear own2 grow2 at2))
        go_roundg (l.length - (k + 1))
        case measure => omega
        case rel => exact ⟨k + 1, out ++ [x], by omega, by go_num, (HB.out.alloc hz _).grown GROW2.out (by simp; omega) (fun k e => (HNB.out k e).1), OWN2.out, Lib.hid (by rw [HT.out, List.filter_append, hi.out]; simp [HNE.out])⟩
    · go_wp2
      go_ret
      have h := hi.out
      rw [List.take_of_length_le (by omega)] at h
      exact ⟨_, _, rfl, HO.out, by rw [h]; exact HS.out.filter n, HB.out⟩
end Go.Proofs.Ytdlcpmjhngfgkaa

namespace Go.Proofs.Ytdlcpmjhngfgkaa
open Go.RowKit Go.Shelf
attribute [local go_sem] Oper.semAt_some

theorem OwnInts.below {w w' : World} {base : Nat} {v : Value} {l : List Int} (h : OwnInts w base v l) (hb : Below w.heap.size w w') : OwnInts w' base v l :=
  ⟨h.1, h.2.imp (fun h => h) (fun ⟨g, cap, cur, h1, h2, h3, h4⟩ => ⟨g, cap, cur, h1, h2, (hb.block g (Array.getElem?_eq_some_iff.1 h3).1).trans h3, h4⟩)⟩

theorem aheadS_iff {x : LIns} {S : Int → Prop} (hS : ∀ v, S v → 0 ≤ v) (v : Int) : (v ∈ x.uses ∨ (S v ∧ v ≠ setsI x.kind x.d)) ↔ aheadS x S v := by
  unfold aheadS LIns.sets setsL setsI
  split
  · constructor
    · rintro (h | ⟨h, _⟩)
      · exact .inl h
      · exact .inr ⟨h, by simp⟩
    · rintro (h | ⟨h, _⟩)
      · exact .inl h
      · exact .inr ⟨h, by have := hS v h; omega⟩
  · simp

theorem box_cells {W : World} {B : Nat} {x : LIns} {av : Value} {fr : Nat × Nat} (h : W.heap[B]? = some (.cells #[I x.kind, I x.d, I x.a, I x.b, I x.op, I x.n, .string x.name, av] 41 fr)) :
    W.cell? ⟨B, 0, none⟩ = some (I x.kind) ∧ W.cell? ⟨B, 1, none⟩ = some (I x.d) ∧ W.cell? ⟨B, 2, none⟩ = some (I x.a) ∧ W.cell? ⟨B, 3, none⟩ = some (I x.b) ∧ W.cell? ⟨B, 4, none⟩ = some (I x.op) ∧ W.cell? ⟨B, 5, none⟩ = some (I x.n) ∧ W.cell? ⟨B, 6, none⟩ = some (.string x.name) ∧ W.cell? ⟨B, 7, none⟩ = some av := by
  have h0 := cell_of_block h 0
  have h1 := cell_of_block h 1
  have h2 := cell_of_block h 2
  have h3 := cell_of_block h 3
  have h4 := cell_of_block h 4
  have h5 := cell_of_block h 5
  have h6 := cell_of_block h 6
  have h7 := cell_of_block h 7
  exact ⟨h0, h1, h2, h3, h4, h5, h6, h7⟩

set_option maxRecDepth 100000 in
set_option maxHeartbeats 2000000 in
/-- what is wanted ahead of an instruction -/
theorem ahead13_any (x : LIns) (av : Value) (w : World) (gx : GIns w x av) (lv : Value) (l : List Int) (S : Int → Prop) (hl : RInts w lv l) (hs : Ris l S) (hS : ∀ v, S v → 0 ≤ v) (hsz : l.length + x.uses.length ≤ 5000000000000) :
    Calls Try.prog 42 #[x.agg av, lv] w (RetRis w (aheadS x S)) := by
  obtain ⟨a0, c0, rfl, _⟩ := RSl.form hl
  have HL := Lib.hid hl
  have HS := Lib.hid hs
  have HX := Lib.hid gx
  have HN := Lib.hid hS
  have hmem := RInts.mem hl
  have HM := Lib.hid hmem
  clear hl hs gx hS hmem
  go_enter Try.func42, Try.ntmps42
  go_wp2_with (first
    | (go_at_call 25; refine (sets10_any _ _ _ _ _ _ _ _ _).mono ?_; rintro e w1 ⟨rfl, hb1⟩; rw [World.size_alloc] at hb1; have hz1 := hb1.size; simp only [World.size_alloc] at hz1; have hk1 := (hb1.block w.heap.size (by omega)).trans (heap_new w _); have hb1' : Below w.heap.size w w1 := (below_a1 w _).trans (hb1.mono (by omega)); obtain ⟨d0, d1, d2, d3, d4, d5, d6, d7⟩ := box_cells hk1; have HB1 := Lib.hid hb1'; have HK1 := Lib.hid hk1; clear hb1 hk1 hb1')
    | (go_at_call 57; refine (without13_any _ l S (setsI x.kind x.d) w1 (HL.out.below HB1.out) HS.out (by omega)).mono ?_; rintro e w2 ⟨v2, l2, rfl, own2, hr2, hb2⟩; have hz2 := hb2.size; have hk2 := (hb2.block w.heap.size (by omega)).trans HK1.out; have hb2' : Below w.heap.size w w2 := HB1.out.trans (hb2.mono (by omega)); clear d0 d1 d2 d3 d4 d5 d6 d7; obtain ⟨d0, d1, d2, d3, d4, d5, d6, d7⟩ := box_cells hk2; obtain ⟨a2, c2, rfl⟩ := own2.slice; have HB2 := Lib.hid hb2'; have HO2 := Lib.hid own2; have HR2 := Lib.hid hr2; clear hb2 hk2 hb2' own2 hr2)
    | (go_at_call 40; refine (uses10_any _ _ _ _ _ _ _ _ _ _ (HX.out.below HB2.out).args HX.out.len).mono ?_; rintro e w3 ⟨v3, rfl, own3, hb3⟩; have hz3 := hb3.size; have HB3 := Lib.hid hb3; have HR3 : Hid (RInts w3 v3 x.uses) := Lib.hid (OwnInts.reads own3 HX.out.uses (by have := LIns.uses_len x HX.out.len; unfold LIns.uses at this; omega)); obtain ⟨a3, c3, rfl⟩ := OwnInts.slice own3; clear own3 hb3))
  go_loopg [1, 6] x.uses.length (fun gh vl i wr => ∃ (k : Nat) (l' : List Int), gh + k = x.uses.length ∧ i = I k ∧ Below w3.heap.size w3 wr ∧ OwnInts wr w.heap.size vl l' ∧ Ris l' (fun v => v ∈ x.uses.take k ∨ (S v ∧ v ≠ setsI x.kind x.d)))
  case atStart => exact ⟨0, l2, rfl, rfl, Below.refl _ _, ((OwnInts.below HO2.out HB3.out).mono (by omega)), HR2.out.iff (fun v => by simp)⟩
  case round =>
    obtain ⟨k, l', hg, rfl, hb, ho, hr⟩ := hrel
    obtain ⟨wo, rfl⟩ : ∃ wo, wo = wr := ⟨_, rfl⟩
    have HB := Lib.hid hb
    have HO := Lib.hid ho
    have HR := Lib.hid hr
    have hz := hb.size
    obtain ⟨oa, oc, rfl⟩ := ho.slice
    have hl' : l'.length ≤ 5000000000000 := by
      have := hr.len (U := l ++ x.uses) (fun v hv => by
        rw [List.mem_append]
        rcases hv with h | ⟨h, _⟩
        · exact .inr (List.mem_of_mem_take h)
        · exact .inl ((HS.out.mem v).2 h))
      rw [List.length_append] at this
      omega
    have hin : ∀ v ∈ l', InI v := fun v hv => by
      rcases (hr.mem v).1 hv with h | ⟨h, _⟩
      · exact HX.out.uses v (List.mem_of_mem_take h)
      · exact HM.out v ((HS.out.mem v).2 h)
    have HRI : Hid (RInts wo (.slice oa l'.length oc) l') := Lib.hid (ho.reads hin (by omega))
    clear hb ho hr hin
    by_cases hlt : k < x.uses.length
    · obtain ⟨b, o, c, he, hc, _⟩ := RInts.at (HR3.out.below HB.out) hlt
      obtain ⟨rfl, rfl⟩ : a3 = some ⟨b, o, none⟩ ∧ c3 = c := by
        simp only [LIns.uses] at he
        simpa using he
      obtain ⟨y, hy⟩ : ∃ y, y = x.uses[k] := ⟨_, rfl⟩
      rw [← hy] at hc
      have HY := Lib.hid hy
      clear he hy
      have hlt' : k < (UseL x.kind x.a x.b x.args).length := hlt
      go_wp2_with (first
        | (go_at_call 56; refine (with13_any _ l' _ y wo HRI.out HR.out hl').mono ?_; rintro e w4 ⟨v4, l4, rfl, own4, hr4, hb4⟩; have HO4 := Lib.hid own4; have HR4 := Lib.hid hr4; have HB4 := Lib.hid hb4; clear own4 hr4 hb4))
      go_roundg (x.uses.length - (k + 1))
      case measure => omega
      case rel =>
        refine ⟨k + 1, l4, by omega, by go_num, HB.out.trans (HB4.out.mono (by omega)), HO4.out.mono (by omega), HR4.out.iff (fun v => ?_)⟩
        rw [List.take_add_one, List.getElem?_eq_getElem hlt, ← HY.out]
        simp only [Option.toList_some, List.mem_append, List.mem_singleton]
        constructor
        · rintro (h | h | h)
          · exact .inl (.inr h)
          · exact .inl (.inl h)
          · exact .inr h
        · rintro ((h | h) | h)
          · exact .inr (.inl h)
          · exact .inl h
          · exact .inr (.inr h)
    · have hlt' : ¬ k < (UseL x.kind x.a x.b x.args).length := hlt
      go_wp2
      go_ret
      refine ⟨_, _, rfl, HO.out, HR.out.iff (fun v => ?_), HB2.out.trans ((HB3.out.trans (HB.out.mono (by omega))).mono (by omega))⟩
      rw [List.take_of_length_le (by omega)]
      exact aheadS_iff HN.out v
end Go.Proofs.Ytdlcpmjhngfgkaa

namespace Go.Proofs.Ytdlcpmjhngfgkaa
open Go.RowKit Go.Shelf
attribute [local go_sem] Oper.semAt_some

theorem blk_cells {W : World} {B : Nat} {iv : Value} {t : LTerm} {fr : Nat × Nat} (h : W.heap[B]? = some (.cells #[iv, I t.kind, I t.a, I t.to, I t.els] 46 fr)) :
    W.cell? ⟨B, 0, none⟩ = some iv ∧ W.cell? ⟨B, 1, none⟩ = some (I t.kind) ∧ W.cell? ⟨B, 2, none⟩ = some (I t.a) ∧ W.cell? ⟨B, 3, none⟩ = some (I t.to) ∧ W.cell? ⟨B, 4, none⟩ = some (I t.els) := by
  have h0 := cell_of_block h 0
  have h1 := cell_of_block h 1
  have h2 := cell_of_block h 2
  have h3 := cell_of_block h 3
  have h4 := cell_of_block h 4
  exact ⟨h0, h1, h2, h3, h4⟩

theorem wantsB_yes {t : LTerm} (h : wantsB t.kind = true) : t.wants = [t.a] := by
  unfold wantsB at h
  simp only [Bool.and_eq_true, decide_eq_true_eq] at h
  unfold LTerm.wants wantsL
  rw [if_pos (by omega)]
theorem wantsB_no {t : LTerm} (h : wantsB t.kind = false) : t.wants = [] := by
  unfold wantsB at h
  simp only [Bool.and_eq_false_iff, decide_eq_false_iff_not] at h
  unfold LTerm.wants wantsL
  rw [if_neg (by omega)]
theorem wants13_at (t : LTerm) (r : Bool) (w : World) (h : wantsB t.kind = r) : Calls Try.prog 55 #[.agg #[I t.kind, I t.a, I t.to, I t.els]] w fun e w' => e = .returned (.bool r) ∧ Below w.heap.size w w' := h ▸ wants13_any _ _ _ _ w

theorem asS_some {Ls : List (List Int)} {i : Nat} (hi : i < Ls.length) (v : Int) : asS Ls i v ↔ v ∈ Ls[i] := by
  unfold asS
  rw [List.getElem?_eq_getElem hi]
  simp

/-- a row of a slice of slices, in the world that is -/
theorem RLs.at {w : World} {v : Value} {Ls : List (List Int)} (h : RLs w v Ls) {i : Nat} (hi : i < Ls.length) :
    ∃ b o c xa xc, v = .slice (some ⟨b, o, none⟩) Ls.length c ∧ w.cell? ⟨b, o + i, none⟩ = some (.slice xa Ls[i].length xc) ∧ RInts w (.slice xa Ls[i].length xc) Ls[i] := by
  obtain ⟨b, o, c, C, he, hC, hr, _⟩ := RSl.at h hi
  obtain ⟨xa, xc, hx, _⟩ := RSl.form hr
  have h0 := hC 0 (by omega)
  rw [hx] at h0 hr
  simp only [Nat.mul_one, Nat.add_zero] at h0
  exact ⟨b, o, c, xa, xc, he, h0, hr⟩

set_option maxRecDepth 100000 in
set_option maxHeartbeats 4000000 in
/-- what is wanted ahead of a block's end -/
theorem end13_any (b : LBlock) (iv vl : Value) (Ls : List (List Int)) (w : World) (gt : GTerm b.term) (hl : RLs w vl Ls) (hn : ∀ k ∈ b.term.next, 0 ≤ k ∧ k < Ls.length) (U : List Int) (hU : U.length ≤ 1000000000000) (hu : ∀ l ∈ Ls, ∀ v ∈ l, v ∈ U) :
    Calls Try.prog 41 #[b.agg iv, vl] w (RetRis w (endS b.term (asS Ls))) := by
  obtain ⟨la, lc, rfl, _⟩ := RSl.form hl
  have HL := Lib.hid hl
  have HG := Lib.hid gt
  have HN := Lib.hid hn
  have HU := Lib.hid hU
  have HUU := Lib.hid hu
  clear hl gt hn hU hu
  go_enter Try.func41, Try.ntmps41
  go_wp2_with (first
    | (go_at_call 54; refine (next10_any _ _ _ _ _).mono ?_; rintro e w1 ⟨v1, rfl, own1, hb1⟩; rw [World.size_alloc] at hb1; have hz1 := hb1.size; simp only [World.size_alloc] at hz1; have hk1 := (hb1.block w.heap.size (by omega)).trans (heap_new w _); have hb1' : Below w.heap.size w w1 := (below_a1 w _).trans (hb1.mono (by omega)); have HB1 := Lib.hid hb1'; have HK1 := Lib.hid hk1; have HR1 : Hid (RInts w1 v1 b.term.next) := Lib.hid (OwnInts.reads own1 HG.out.next (by have := LTerm.next_len b.term; omega)); obtain ⟨a1, c1, rfl⟩ := OwnInts.slice own1; clear own1 hb1 hk1 hb1'))
  go_loopg [5, 7] b.term.next.length (fun gh ov i wr => ∃ (k : Nat) (l' : List Int), gh + k = b.term.next.length ∧ i = I k ∧ Below w1.heap.size w1 wr ∧ OwnInts wr w.heap.size ov l' ∧ Ris l' (fun v => ∃ x ∈ b.term.next.take k, asS Ls x.toNat v))
  case atStart => exact ⟨0, [], rfl, rfl, Below.refl _ _, OwnInts.nil _ _, ⟨List.Pairwise.nil, fun v => by simp⟩⟩
  case round =>
    obtain ⟨k, l', hg, rfl, hb, ho, hr⟩ := hrel
    obtain ⟨wo, rfl⟩ : ∃ wo, wo = wr := ⟨_, rfl⟩
    have HB := Lib.hid hb
    have HO := Lib.hid ho
    have HR := Lib.hid hr
    have hz := hb.size
    have hl' : l'.length ≤ 1000000000000 := Nat.le_trans (hr.len (U := U) (fun v ⟨x, _, l, hl, hv⟩ => HUU.out l (List.mem_of_getElem? hl) v hv)) HU.out
    have hin : ∀ v ∈ l', InI v := fun v hv => by
      obtain ⟨x, hx, l, hl, hv⟩ := (hr.mem v).1 hv
      have hi := (List.getElem?_eq_some_iff.1 hl).1
      obtain ⟨_, _, _, _, _, _, _, hr⟩ := RLs.at HL.out hi
      rw [(List.getElem?_eq_some_iff.1 hl).2] at hr
      exact RInts.mem hr v hv
    obtain ⟨oa, oc, rfl⟩ := ho.slice
    have HRI : Hid (RInts wo (.slice oa l'.length oc) l') := Lib.hid (ho.reads hin (by omega))
    clear hb ho hr hin
    by_cases hlt : k < b.term.next.length
    · have hlt' : k < (nextL b.term.kind b.term.to b.term.els).length := hlt
      obtain ⟨nb, no, nc, he, hc, _⟩ := RInts.at (HR1.out.below HB.out) hlt
      obtain ⟨rfl, rfl⟩ : a1 = some ⟨nb, no, none⟩ ∧ c1 = nc := by
        simp only [LTerm.next] at he
        simpa using he
      have hnx := HN.out _ (List.getElem_mem hlt)
      obtain ⟨x, hx⟩ : ∃ x : Nat, b.term.next[k]'hlt = (x : Int) := ⟨(b.term.next[k]'hlt).toNat, by omega⟩
      replace hc : wo.cell? ⟨nb, no + k, none⟩ = some (I (x : Int)) := by rw [← hx]; exact hc
      rw [hx] at hnx
      have hxl : x < Ls.length := by omega
      have hxl' : (x : Int) < (Ls.length : Int) := by omega
      have hx0 : (0 : Int) ≤ (x : Int) := by omega
      obtain ⟨lb, lo, lc', xa, xc, he2, hcw, hrow⟩ := RLs.at HL.out hxl
      obtain ⟨rfl, rfl⟩ : la = some ⟨lb, lo, none⟩ ∧ lc = lc' := by simpa using he2
      have hbw := World.block_lt_of_cell? w _ hcw
      have hc2 := ((HB1.out.trans (HB.out.mono (by have := HB1.out.size; omega))).cell (p := ⟨lb, lo + x, none⟩) hbw).trans hcw
      obtain ⟨row, hrw⟩ : ∃ row, row = Ls[x] := ⟨_, rfl⟩
      rw [← hrw] at hc2 hrow hcw
      have HX := Lib.hid hx
      have HRW := Lib.hid hrw
      have hrl : row.length ≤ 140737488351232 := by obtain ⟨_, _, _, h, _⟩ := hrow; exact h
      have hnl := LTerm.next_len b.term
      have HROW := Lib.hid hrow
      have HCN := Lib.hid hc
      have HCW := Lib.hid hcw
      have hnbl : nb < wo.heap.size := World.block_lt_of_cell? wo _ hc
      clear he he2 hnx hx hrw hrow hcw hc2 hc
      go_wp2
      go_loopg [5, 8] row.length (fun gh ov i wr => ∃ (m : Nat) (l'' : List Int), gh + m = row.length ∧ i = I m ∧ Below wo.heap.size wo wr ∧ OwnInts wr w.heap.size ov l'' ∧ Ris l'' (fun v => (∃ x ∈ b.term.next.take k, asS Ls x.toNat v) ∨ v ∈ row.take m))
      case atStart => exact ⟨0, l', rfl, rfl, Below.refl _ _, HO.out, HR.out.iff (fun v => by simp)⟩
      case round =>
        obtain ⟨m, l'', hg', rfl, hb', ho', hr'⟩ := hrel
        obtain ⟨wq, rfl⟩ : ∃ wq, wq = wr := ⟨_, rfl⟩
        have HBq := Lib.hid hb'
        have HOq := Lib.hid ho'
        have HRq := Lib.hid hr'
        have hzq := hb'.size
        have hl'' : l''.length ≤ 1000000000000 := Nat.le_trans (hr'.len (U := U) (fun v hv => by
          rcases hv with ⟨x, _, l, hl, hv⟩ | hv
          · exact HUU.out l (List.mem_of_getElem? hl) v hv
          · exact HUU.out row (by rw [HRW.out]; exact List.getElem_mem _) v (List.mem_of_mem_take hv))) HU.out
        have hin : ∀ v ∈ l'', InI v := fun v hv => by
          rcases (hr'.mem v).1 hv with ⟨x, hx, l, hl, hv⟩ | hv
          · have hi := (List.getElem?_eq_some_iff.1 hl).1
            obtain ⟨_, _, _, _, _, _, _, hr⟩ := RLs.at HL.out hi
            rw [(List.getElem?_eq_some_iff.1 hl).2] at hr
            exact RInts.mem hr v hv
          · exact RInts.mem HROW.out v (List.mem_of_mem_take hv)
        obtain ⟨qa, qc, rfl⟩ := ho'.slice
        have HRIq : Hid (RInts wq (.slice qa l''.length qc) l'') := Lib.hid (ho'.reads hin (by omega))
        have hbwq : Below w.heap.size w wq := (HB1.out.trans (HB.out.mono (by have := HB1.out.size; omega))).trans (hb'.mono (by have := HB1.out.size; omega))
        have hc := (hb'.cell (p := ⟨nb, no + k, none⟩) hnbl).trans HCN.out
        have hc2 := (hbwq.cell (p := ⟨lb, lo + x, none⟩) hbw).trans HCW.out
        have HBWQ := Lib.hid hbwq
        clear hb' ho' hr' hin hbwq
        by_cases hlm : m < row.length
        · obtain ⟨rb, ro, rc, he3, hc3, _⟩ := RInts.at (HROW.out.below HBWQ.out) hlm
          obtain ⟨rfl, rfl⟩ : xa = some ⟨rb, ro, none⟩ ∧ xc = rc := by simpa using he3
          obtain ⟨y, hy⟩ : ∃ y, y = row[m] := ⟨_, rfl⟩
          rw [← hy] at hc3
          have HY := Lib.hid hy
          clear he3 hy
          go_wp2_with (first
            | (go_at_call 56; refine (with13_any _ l'' _ y wq HRIq.out HRq.out (by omega)).mono ?_; rintro e w4 ⟨v4, l4, rfl, own4, hr4, hb4⟩; have HO4 := Lib.hid own4; have HR4 := Lib.hid hr4; have HB4 := Lib.hid hb4; clear own4 hr4 hb4))
          go_roundg (row.length - (m + 1))
          case measure => omega
          case rel =>
            refine ⟨m + 1, l4, by omega, by go_num, HBq.out.trans (HB4.out.mono hzq), HO4.out.mono (by have := HBWQ.out.size; omega), HR4.out.iff (fun v => ?_)⟩
            rw [List.take_add_one, List.getElem?_eq_getElem hlm, ← HY.out]
            simp only [Option.toList_some, List.mem_append, List.mem_singleton]
            constructor
            · rintro (h | h | h)
              · exact .inr (.inr h)
              · exact .inl h
              · exact .inr (.inl h)
            · rintro (h | h | h)
              · exact .inr (.inl h)
              · exact .inr (.inr h)
              · exact .inl h
        · go_wp2
          go_roundg (b.term.next.length - (k + 1))
          case measure => omega
          case rel =>
            refine ⟨k + 1, l'', by omega, by go_num, HB.out.trans (HBq.out.mono hz), HOq.out, HRq.out.iff (fun v => ?_)⟩
            have e1 : row.take m = row := List.take_of_length_le (by omega)
            rw [e1, List.take_add_one, List.getElem?_eq_getElem hlt, HX.out]
            simp only [Option.toList_some, List.mem_append, List.mem_singleton]
            constructor
            · rintro (⟨z, hz, h⟩ | h)
              · exact ⟨z, .inl hz, h⟩
              · exact ⟨(x : Int), .inr rfl, by rw [Int.toNat_natCast, asS_some hxl, ← HRW.out]; exact h⟩
            · rintro ⟨z, hz | rfl, h⟩
              · exact .inl ⟨z, hz, h⟩
              · rw [Int.toNat_natCast, asS_some hxl, ← HRW.out] at h
                exact .inr h
    · have hlt' : ¬ k < (nextL b.term.kind b.term.to b.term.els).length := hlt
      have hko := (HB.out.block w.heap.size (by have := (Array.getElem?_eq_some_iff.1 HK1.out).1; omega)).trans HK1.out
      obtain ⟨d0, d1, d2, d3, d4⟩ := blk_cells hko
      have HKO := Lib.hid hko
      have hwo : w.heap.size < wo.heap.size := (Array.getElem?_eq_some_iff.1 hko).1
      have hfin : ∀ v, (∃ x ∈ b.term.next.take k, asS Ls x.toNat v) ↔ (∃ x ∈ b.term.next, asS Ls x.toNat v) := fun v => by rw [List.take_of_length_le (by omega)]
      have HF := Lib.hid hfin
      have hbwo : Below w.heap.size w wo := HB1.out.trans (HB.out.mono (by have := HB1.out.size; omega))
      have HBWO := Lib.hid hbwo
      clear hko hfin hbwo
      cases hwb : wantsB b.term.kind
      · have HWB := Lib.hid hwb
        clear hwb
        go_wp2_with (first
          | (go_at_call 55; refine (wants13_at b.term _ wo HWB.out).mono ?_; rintro e w4 ⟨rfl, hb4⟩; have HB4 := Lib.hid hb4; clear hb4))
        go_ret
        refine ⟨_, _, rfl, OwnInts.below HO.out HB4.out, HR.out.iff (fun v => ?_), HBWO.out.trans (HB4.out.mono (by omega))⟩
        rw [HF.out v]
        unfold endS
        rw [wantsB_no HWB.out]
        simp
      · have HWB := Lib.hid hwb
        clear hwb
        go_wp2_with (first
          | (go_at_call 55; refine (wants13_at b.term _ wo HWB.out).mono ?_; rintro e w4 ⟨rfl, hb4⟩; have hk4 := (hb4.block w.heap.size hwo).trans HKO.out; clear d0 d1 d2 d3 d4; obtain ⟨d0, d1, d2, d3, d4⟩ := blk_cells hk4; have hz4 := hb4.size; have HB4 := Lib.hid hb4; clear hb4 hk4)
          | (go_at_call 56; refine (with13_any _ l' _ b.term.a w4 (HRI.out.below HB4.out) HR.out (by omega)).mono ?_; rintro e w5 ⟨v5, l5, rfl, own5, hr5, hb5⟩; have HO5 := Lib.hid own5; have HR5 := Lib.hid hr5; have HB5 := Lib.hid hb5; clear own5 hr5 hb5))
        go_ret
        refine ⟨_, _, rfl, HO5.out.mono (by omega), HR5.out.iff (fun v => ?_), (HBWO.out.trans (HB4.out.mono (by omega))).trans (HB5.out.mono (by omega))⟩
        rw [HF.out v]
        unfold endS
        rw [wantsB_yes HWB.out, List.mem_singleton, or_comm]
end Go.Proofs.Ytdlcpmjhngfgkaa

namespace Go.Proofs.Ytdlcpmjhngfgkaa
open Go.RowKit Go.Shelf
attribute [local go_sem] Oper.semAt_some

set_option maxRecDepth 100000 in
set_option maxHeartbeats 4000000 in
/-- what is wanted at a block's beginning -/
theorem begin13_any (b : LBlock) (iv vl : Value) (Ls : List (List Int)) (w : World) (gb : GBlk w b iv) (hl : RLs w vl Ls) (hn : ∀ k ∈ b.term.next, 0 ≤ k ∧ k < Ls.length) (U : List Int) (hU : U.length ≤ 1000000000000) (hUi : ∀ v ∈ U, 0 ≤ v ∧ v ≤ 1000000)
    (hu : ∀ l ∈ Ls, ∀ v ∈ l, v ∈ U) (hu1 : ∀ x ∈ b.ins, ∀ v ∈ x.uses, v ∈ U) (hu2 : ∀ v ∈ b.term.wants, v ∈ U) :
    Calls Try.prog 39 #[b.agg iv, vl] w (RetRis w (beginS b (asS Ls))) := by
  obtain ⟨la, lc, rfl, _⟩ := RSl.form hl
  obtain ⟨ia, ic, rfl, hil⟩ := RSl.form gb.ins
  have hend : ∀ v, endS b.term (asS Ls) v → v ∈ U := by
    rintro v (⟨k, _, l, hl, hv⟩ | hv)
    · exact hu l (List.mem_of_getElem? hl) v hv
    · exact hu2 v hv
  have HL := Lib.hid hl
  have HG := Lib.hid gb
  have HN := Lib.hid hn
  have HU := Lib.hid hU
  have HUI := Lib.hid hUi
  have HUU := Lib.hid hu
  have HU1 := Lib.hid hu1
  have HE := Lib.hid hend
  clear hl gb hn hU hu hUi hu1 hu2 hend
  go_enter Try.func39, Try.ntmps39
  go_wp2_with (first
    | (go_at_call 41; refine (end13_any b _ _ Ls _ HG.out.term (HL.out.below (below_a1 _ _)) HN.out U HU.out HUU.out).mono ?_; rintro e w1 ⟨v1, l1, rfl, own1, hr1, hb1⟩; rw [World.size_alloc] at hb1; have hz1 := hb1.size; simp only [World.size_alloc] at hz1; have hk1 := (hb1.block w.heap.size (by omega)).trans (heap_new w _); have hb1' : Below w.heap.size w w1 := (below_a1 w _).trans (hb1.mono (by omega)); obtain ⟨d0, d1, d2, d3, d4⟩ := blk_cells hk1; have HB1 := Lib.hid hb1'; have HK1 := Lib.hid hk1; have HO1 := Lib.hid own1; have HR1 := Lib.hid hr1; clear own1 hb1 hk1 hb1' hr1))
  go_loopg [5, 6] b.ins.length (fun gh ov i wr => ∃ (m : Nat) (l' : List Int), m = gh ∧ m ≤ b.ins.length ∧ i = I ((m : Int) - 1) ∧ Below w1.heap.size w1 wr ∧ OwnInts wr w.heap.size ov l' ∧ Ris l' ((b.ins.drop m).foldr aheadS (endS b.term (asS Ls))))
  case atStart => exact ⟨b.ins.length, l1, rfl, Nat.le_refl _, rfl, Below.refl _ _, HO1.out.mono (by simp), by rw [List.drop_length]; exact HR1.out⟩
  case round =>
    obtain ⟨m, l', rfl, hm, rfl, hb, ho, hr⟩ := hrel
    obtain ⟨wo, rfl⟩ : ∃ wo, wo = wr := ⟨_, rfl⟩
    have hall : ∀ v, (b.ins.drop m).foldr aheadS (endS b.term (asS Ls)) v → v ∈ U := foldr_uses _ _ (· ∈ U) HE.out (fun x hx => HU1.out x (List.mem_of_mem_drop hx))
    have hl' : l'.length ≤ 1000000000000 := Nat.le_trans (hr.len (U := U) hall) HU.out
    have hpos : ∀ v, (b.ins.drop m).foldr aheadS (endS b.term (asS Ls)) v → 0 ≤ v := fun v hv => (HUI.out v (hall v hv)).1
    have hin : ∀ v ∈ l', InI v := fun v hv => by have := HUI.out v (hall v ((hr.mem v).1 hv)); unfold InI; omega
    obtain ⟨oa, oc, rfl⟩ := ho.slice
    have HRI : Hid (RInts wo (.slice oa l'.length oc) l') := Lib.hid (ho.reads hin (by omega))
    have hbw : Below w.heap.size w wo := HB1.out.trans (hb.mono (by have := HB1.out.size; omega))
    have hko := (hb.block w.heap.size (by have := (Array.getElem?_eq_some_iff.1 HK1.out).1; omega)).trans HK1.out
    have HB := Lib.hid hb
    have HO := Lib.hid ho
    have HR := Lib.hid hr
    have HP := Lib.hid hpos
    have hz := hb.size
    have hz0 := hbw.size
    clear hb ho hr hin hall hpos
    cases m with
    | zero =>
      have HBW := Lib.hid hbw
      clear hbw hko
      go_wp2
      go_ret
      exact ⟨_, _, rfl, HO.out, HR.out, HBW.out⟩
    | succ m =>
      have hlt : m < b.ins.length := by omega
      obtain ⟨d0, d1, d2, d3, d4⟩ := blk_cells hko
      obtain ⟨b2, o2, c2, C, he, hC, h0', h1', h2', h3', h4', h5', h6', gi⟩ := RSl.at HG.out.ins hlt
      obtain ⟨rfl, rfl⟩ : ia = some ⟨b2, o2, none⟩ ∧ ic = c2 := by simpa using he
      have hdr : b.ins.drop m = b.ins[m] :: b.ins.drop (m + 1) := List.drop_eq_getElem_cons hlt
      obtain ⟨ins, hins⟩ : ∃ ins, ins = b.ins[m] := ⟨_, rfl⟩
      rw [← hins] at h0' h1' h2' h3' h4' h5' h6' gi hdr
      have hcell : ∀ i, i < 8 → wo.cell? ⟨b2, o2 + m * 8 + i, none⟩ = some (C i) := fun i hi => by
        rw [hbw.cell (p := ⟨b2, o2 + m * 8 + i, none⟩) (World.block_lt_of_cell? w _ (hC i hi))]; exact hC i hi
      obtain ⟨aa, ca, hav, halen⟩ := RSl.form gi.args
      have e0 := hcell 0 (by decide); rw [h0'] at e0
      have e1 := hcell 1 (by decide); rw [h1'] at e1
      have e2 := hcell 2 (by decide); rw [h2'] at e2
      have e3 := hcell 3 (by decide); rw [h3'] at e3
      have e4 := hcell 4 (by decide); rw [h4'] at e4
      have e5 := hcell 5 (by decide); rw [h5'] at e5
      have e6 := hcell 6 (by decide); rw [h6'] at e6
      have e7 := hcell 7 (by decide); rw [hav] at e7 gi
      simp only [Nat.add_zero] at e0
      have HGI := Lib.hid (gi.below hbw)
      have hul := ins.uses_len gi.len
      have HUL := Lib.hid hul
      have HBW := Lib.hid hbw
      have HDR := Lib.hid hdr
      have hm1 : ((m + 1 : Nat) : Int) - 1 = (m : Int) := by omega
      have hm0 : (0 : Int) ≤ (m : Int) := by omega
      have hm2 : (m : Int) < (b.ins.length : Int) := by omega
      rw [hm1]
      clear hC hcell h0' h1' h2' h3' h4' h5' h6' he gi hav hins hbw hko hul hdr hm1
      go_wp2_with (first
        | (go_at_call 42; refine (ahead13_any ins (.slice aa ins.args.length ca) wo HGI.out _ l' _ HRI.out HR.out HP.out (by have := HUL.out; omega)).mono ?_; rintro e w4 ⟨v4, l4, rfl, own4, hr4, hb4⟩; have HO4 := Lib.hid own4; have HR4 := Lib.hid hr4; have HB4 := Lib.hid hb4; clear own4 hr4 hb4))
      go_roundg m
      case measure => omega
      case rel =>
        refine ⟨m, l4, rfl, by omega, rfl, HB.out.trans (HB4.out.mono hz), HO4.out.mono hz0, ?_⟩
        rw [HDR.out]
        exact HR4.out
end Go.Proofs.Ytdlcpmjhngfgkaa
