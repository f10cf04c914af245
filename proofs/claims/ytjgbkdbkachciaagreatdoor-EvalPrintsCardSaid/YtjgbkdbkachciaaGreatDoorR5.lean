import Derived.Test.YtjgbkdbkachciaaGreatDoorR4
namespace Go.Proofs.YtjgbkdbkachciaaGreatDoor
open Go.RowKit Go.Shelf
attribute [local go_sem] Oper.semAt_some

theorem runL_le (p : Int → Bool) (l : Str) : runL p l ≤ l.length := by
  unfold runL
  exact (List.takeWhile_prefix _).length_le
theorem Asc.take {l : Str} (h : Asc l) (n : Nat) : Asc (l.take n) := fun b hb => h b (List.mem_of_mem_take hb)
theorem Asc.drop {l : Str} (h : Asc l) (n : Nat) : Asc (l.drop n) := fun b hb => h b (List.mem_of_mem_drop hb)

set_option maxRecDepth 100000 in
set_option maxHeartbeats 2000000 in
theorem word_yes (l : Str) (ha : Asc l) (x : Str) (hx : x = l.take (runL wordR l)) (k : Int) (hk : (k = 2 ∧ isWord x = true) ∨ (k = 1 ∧ isWord x = false ∧ isName x = true)) (w : World) :
    Calls Tryz.prog 171 #[S l] w (RetTok ⟨k, x, 0, 0⟩ w) := by
  have hax : Asc x := by rw [hx]; exact ha.take _
  have hnl := runL_le wordR l
  have HA := Lib.hid ha
  have HAX := Lib.hid hax
  have hrun : ∀ W, Calls Tryz.prog 165 #[S l, .func (.func 198) #[] #[]] W fun e w' => e = .returned (I (runL wordR l)) ∧ Below W.heap.size W w' := fun W => run_198 l ha W
  obtain ⟨n, hn⟩ : ∃ n, n = runL wordR l := ⟨_, rfl⟩
  rw [← hn] at hrun hnl hx
  have hmv : (⟨List.toArray l⟩ : ByteArray).extract 0 n = ⟨x.toArray⟩ := by rw [hx]; exact ext_take l n
  have HRUN := Lib.hid hrun
  have hnlz : (n : Int) ≤ (l.length : Int) := by omega
  clear ha hax hrun hn hx
  rcases hk with ⟨rfl, hw⟩ | ⟨rfl, hw, hnm⟩
  · have HW := Lib.hid hw
    clear hw
    go_enter Tryz.func171, Tryz.ntmps171
    go_wp2_with (first
      | (go_at_call 165; refine (HRUN.out _).mono ?_; rintro e w1 ⟨rfl, hb1⟩; have hz1 := hb1.size; rw [World.size_alloc] at hz1; have hk1 := (hb1.block w.heap.size (by simp)).trans (heap_new _ _); have HB1 := Lib.hid ((below_a1 w _).trans (hb1.mono (by simp))); have HK1 := Lib.hid hk1; clear hb1 hk1)
      | (go_at_call 177; refine (word_any x _).mono ?_; rintro e w2 ⟨rfl, rfl⟩; rw [HW.out])
      | (refine wpList_store_row rfl 119 (.tmp 2) (.tmp 12) rfl w.heap.size _ rfl rfl 119 _ HK1.out (by kernel_rfl) (by rfl) (by simp [Value.oneCell']) ?_))
    refine bodyPost_ret (results_ct rfl _ _ w.heap.size 119 _ (0, 0) _ rfl (setRow_heap _ _ _ _ _ _ HK1.out) Tryz.underlying119 rfl (by kernel_rfl)) rfl ?_
    refine ⟨rfl, HB1.out.grown (row := some w.heap.size) ⟨rfl, rfl, rfl, by simp, fun i _ hi => setRow_other _ _ _ _ (fun e => hi (by rw [e]))⟩ HB1.out.size (fun r e => by cases e; exact Nat.le_refl _)⟩
  · have HW := Lib.hid hw
    have HNM := Lib.hid hnm
    clear hw hnm
    go_enter Tryz.func171, Tryz.ntmps171
    go_wp2_with (first
      | (go_at_call 165; refine (HRUN.out _).mono ?_; rintro e w1 ⟨rfl, hb1⟩; have hz1 := hb1.size; rw [World.size_alloc] at hz1; have hk1 := (hb1.block w.heap.size (by simp)).trans (heap_new _ _); have HB1 := Lib.hid ((below_a1 w _).trans (hb1.mono (by simp))); have HK1 := Lib.hid hk1; clear hb1 hk1)
      | (go_at_call 177; refine (word_any x _).mono ?_; rintro e w2 ⟨rfl, rfl⟩; rw [HW.out])
      | (go_at_call 117; refine (name_yes x HAX.out HNM.out _).mono ?_; rintro e w3 ⟨rfl, hb3⟩; have hk3 := (hb3.block w.heap.size (by omega)).trans HK1.out; have HK3 := Lib.hid hk3; have HB3 := Lib.hid (HB1.out.trans (hb3.mono (by omega))); clear hb3 hk3)
      | (refine wpList_store_row rfl 119 (.tmp 2) (.tmp 14) rfl w.heap.size _ rfl rfl 119 _ HK3.out (by kernel_rfl) (by rfl) (by simp [Value.oneCell']) ?_))
    refine bodyPost_ret (results_ct rfl _ _ w.heap.size 119 _ (0, 0) _ rfl (setRow_heap _ _ _ _ _ _ HK3.out) Tryz.underlying119 rfl (by kernel_rfl)) rfl ?_
    refine ⟨rfl, HB3.out.grown (row := some w.heap.size) ⟨rfl, rfl, rfl, by simp, fun i _ hi => setRow_other _ _ _ _ (fun e => hi (by rw [e]))⟩ HB3.out.size (fun r e => by cases e; exact Nat.le_refl _)⟩
end Go.Proofs.YtjgbkdbkachciaaGreatDoor
