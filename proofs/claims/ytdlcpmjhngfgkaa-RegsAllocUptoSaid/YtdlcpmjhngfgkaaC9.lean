import Derived.Test.YtdlcpmjhngfgkaaC3
namespace Go.Proofs.Ytdlcpmjhngfgkaa
open Go.RowKit Go.Shelf
attribute [local go_sem] Oper.semAt_some

/-- an instruction of a block, as Backward hands it on -/
abbrev AInX (w : World) (xs : List LIns) : Type := { p : Nat × LIns × Value // GIns w p.2.1 p.2.2 ∧ xs[p.1]? = some p.2.1 }
def encInX {w : World} {xs : List LIns} (p : AInX w xs) : Array Value := #[.int .i64 (p.1.1 : Int), p.1.2.1.agg p.1.2.2]

set_option maxRecDepth 100000 in
set_option maxHeartbeats 2000000 in
theorem backX1_in (F : Fence) (n : Nat) (h75 : F.fn 75) (hro : F.round = none) (hn : 1 ≤ n) (w0 : World) (l Bs : Nat) (iv : Value) (xs : List LIns) (hiv : RSl 8 RIns w0 iv xs) (J Jx : List (AInX w0 xs) → World → Prop)
    (hY : ∀ pre x W, J pre W → pre.length < xs.length → YieldAt F (n - 1) Try.prog l (encInX x) W fun e W' =>
      (e = .returned (.bool true) ∧ J (pre ++ [x]) W' ∧ KpB w0.heap.size Bs W W') ∨ (e = .returned (.bool false) ∧ Jx (pre ++ [x]) W'))
    (W : World) (hW : Below w0.heap.size w0 W) (hBs : Boxed W Bs 42 iv) (h0 : J [] W) :
    CallsIn F n Try.prog 75 #[.func (.yield l) #[] #[], .pointer (some ⟨Bs, 0, none⟩)] W fun e W' => (∃ v, e = .returned v) ∧
      ((∃ ys : List (AInX w0 xs), ys.map (fun p => (p.1.1, p.1.2.1)) = (xs.zipIdx.map fun p => (p.2, p.1)).reverse ∧ J ys W') ∨ (∃ pre, True ∧ Jx pre W')) := by
  obtain ⟨a0, c0, rfl, hlen⟩ := hiv.form
  refine callsIn_of_wp Try.func75 rfl h75 ?_ hro
  simp only [Try.ntmps75, List.size_toArray, List.length_cons, List.length_nil, Nat.reduceAdd, Nat.reduceSub, Array.replicate_succ, Array.replicate_zero, List.push_toArray, List.append_toArray, List.nil_append, List.cons_append]
  have hBW := hBs.cell
  gi_wp2
  gi_loopg [3] xs.length (fun g i wr => ∃ (k : Nat) (ys : List (AInX w0 xs)), k ≤ xs.length ∧ g = xs.length - k ∧ i = .int .i64 (((xs.length : Int) - k) - 1) ∧ ys.length = k ∧ ys.map (fun p => (p.1.1, p.1.2.1)) = ((xs.zipIdx.map fun p => (p.2, p.1)).reverse).take k ∧ J ys wr ∧ Below w0.heap.size w0 wr ∧ Boxed wr Bs 42 (.slice a0 xs.length c0))
  case atStart => exact ⟨0, [], Nat.zero_le _, rfl, by simp, rfl, by simp, h0, hW, hBs⟩
  case round =>
    obtain ⟨k, ys, hk, hg, rfl, hl, hys, hj, hB, hbx⟩ := hrel
    have HBX := Lib.hid hbx
    have HG := Lib.hid hg
    have HL := Lib.hid hl
    have HYS := Lib.hid hys
    have HJ := Lib.hid hj
    have hBr := hbx.cell
    clear hg hl hys hj hbx
    by_cases hlt : k < xs.length
    · obtain ⟨i, hi⟩ : ∃ i : Nat, (xs.length : Int) - k - 1 = i := ⟨xs.length - k - 1, by omega⟩
      rw [hi]
      have hix : i < xs.length := by omega
      obtain ⟨b1, o1, c1, C, he, hC, h0', h1', h2', h3', h4', h5', h6', h7'⟩ := RSl.at hiv hix
      obtain ⟨rfl, rfl⟩ : a0 = some ⟨b1, o1, none⟩ ∧ c0 = c1 := by simpa using he
      have hcell : ∀ j, j < 8 → wr.cell? ⟨b1, o1 + i * 8 + j, none⟩ = some (C j) := fun j hj => by
        rw [hB.cell (p := ⟨b1, o1 + i * 8 + j, none⟩) (World.block_lt_of_cell? w0 _ (hC j hj))]; exact hC j hj
      have e0 := hcell 0 (by decide); rw [h0'] at e0
      have e1 := hcell 1 (by decide); rw [h1'] at e1
      have e2 := hcell 2 (by decide); rw [h2'] at e2
      have e3 := hcell 3 (by decide); rw [h3'] at e3
      have e4 := hcell 4 (by decide); rw [h4'] at e4
      have e5 := hcell 5 (by decide); rw [h5'] at e5
      have e6 := hcell 6 (by decide); rw [h6'] at e6
      have e7 := hcell 7 (by decide)
      simp only [Nat.add_zero] at e0
      obtain ⟨fn, tmps, assign, body, hyy, hR⟩ := hY ys ⟨(i, xs[i], C 7), h7', List.getElem?_eq_getElem hix⟩ wr HJ.out (by have := HL.out; omega)
      dsimp only [encInX] at hyy
      clear hC hcell h0' h1' h2' h3' h4' h5' h6' he
      gi_wp2
      refine hR.mono ?_
      rintro e W3 (⟨rfl, hJ3, hk3⟩ | ⟨rfl, hJx3⟩)
      · have HK3 := Lib.hid hk3
        have HJ3 := Lib.hid hJ3
        clear hk3 hJ3
        gi_wp2
        gi_roundg (xs.length - (k + 1))
        case measure => have := HG.out; omega
        case rel =>
          refine ⟨k + 1, _, by omega, rfl, by congr 1; omega, by simp [HL.out], ?_, HJ3.out, hB.trans HK3.out.1, HK3.out.2.trans HBX.out⟩
          rw [List.map_append, HYS.out, back_take xs hix (by omega)]
          rfl
      · gi_wp2
        refine bodyPost_ret (results_none rfl _ _ _) rfl ?_
        exact ⟨⟨_, rfl⟩, .inr ⟨_, trivial, hJx3⟩⟩
    · have hkl : k = xs.length := by omega
      gi_wp2
      go_end0
      refine ⟨⟨_, rfl⟩, .inl ⟨ys, ?_, HJ.out⟩⟩
      rw [HYS.out, hkl, List.take_of_length_le (by simp)]

theorem backX_stops (F : Fence) (n : Nat) (h75 : F.fn 75) (hro : F.round = none) (hn : 1 ≤ n) (Bs : Nat) (iv : Value) (xs : List LIns) (w W0 : World) (hb : Below w.heap.size w W0) (hiv : RSl 8 RIns w iv xs) (hBs : Boxed W0 Bs 42 iv) :
    SeqStopsK F n Try.prog 75 #[.pointer (some ⟨Bs, 0, none⟩)] (encInX (w := w) (xs := xs)) (KpB w.heap.size Bs) (fun ys => ys.map (fun p => (p.1.1, p.1.2.1)) = (xs.zipIdx.map fun p => (p.2, p.1)).reverse) (fun _ => True) xs.length W0 := fun l J Jx W hW _ _ hY h0 =>
  backX1_in F n h75 hro hn w l Bs iv xs hiv J Jx hY W (hb.trans (hW.mono hb.size)) ((hW.block Bs hBs.lt).trans hBs) h0

end Go.Proofs.Ytdlcpmjhngfgkaa
