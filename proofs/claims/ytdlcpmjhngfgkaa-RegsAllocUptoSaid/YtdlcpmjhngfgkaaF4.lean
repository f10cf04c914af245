import Derived.Test.YtdlcpmjhngfgkaaF3
import Derived.Deep.RegionHeld3
import Derived.Deep.AppendLies
namespace Go.Proofs.Ytdlcpmjhngfgkaa
open Go.RowKit Go.Shelf
attribute [local go_sem] Oper.semAt_some

/-- an instruction that may be, of ten values -/
structure GoodIns (x : LIns) : Prop where
  kind : 1 ≤ x.kind ∧ x.kind ≤ 9
  d : 0 ≤ x.d ∧ x.d < 10
  a : 0 ≤ x.a ∧ x.a < 10
  b : 0 ≤ x.b ∧ x.b < 10
  args : ∀ v ∈ x.args, 0 ≤ v ∧ v < 10
  len : x.args.length ≤ 2

theorem pick_at (c n r : Int) (w : World) (hc : InI c) (hn : 1 ≤ n) (hn2 : n ≤ 1000000) (h : pickI c n = r) :
    Calls Try.prog 28 #[I c, I n] w fun e w' => e = .returned (I r) ∧ w = w' := by subst h; exact pick_any c n w hc hn hn2
theorem pick_ex (c n : Int) (w : World) (hc : InI c) (hn : 1 ≤ n) (hn2 : n ≤ 1000000) :
    Calls Try.prog 28 #[I c, I n] w fun e w' => ∃ r, e = .returned (I r) ∧ 0 ≤ r ∧ r < n ∧ w = w' :=
  (pick_any c n w hc hn hn2).mono fun _ _ ⟨he, hw⟩ => ⟨_, he, (pickI_nonneg c n hn).1, (pickI_nonneg c n hn).2, hw⟩

/-- the names of functions -/
structure Names (w : World) (nv : Value) (nb : Nat) : Prop where
  sl : nv = .slice (some ⟨nb, 0, none⟩) 3 3
  row : Row w nb 9 [.string ⟨#[109, 97, 105, 110]⟩, .string ⟨#[102]⟩, .string ⟨#[103]⟩]

theorem GoodIns.of {k d a b op n : Int} {nm : ByteArray} {l : List Int} (h1 : 1 ≤ k ∧ k ≤ 9) (h2 : 0 ≤ d ∧ d < 10) (h3 : 0 ≤ a ∧ a < 10) (h4 : 0 ≤ b ∧ b < 10) (h5 : ∀ v ∈ l, 0 ≤ v ∧ v < 10) (h6 : l.length ≤ 2) : GoodIns ⟨k, d, a, b, op, n, nm, l⟩ := ⟨h1, h2, h3, h4, h5, h6⟩
def InsPost (w : World) (e : Ending) (w' : World) : Prop := ∃ x av, e = .returned (LIns.agg x av) ∧ GoodIns x ∧ OwnInts w' w.heap.size av x.args ∧ Below w.heap.size w w'

set_option maxRecDepth 100000 in
set_option maxHeartbeats 4000000 in
theorem ins_1 (k d a b op n : Int) (nm : ByteArray) (ag nv : Value) (w : World) (hk : InI k) (hd : InI d) (ha : InI a) (hb : InI b) (hop : InI op) (hn : InI n) (h9 : pickI k 9 = 0) :
    Calls Try.prog 27 #[.agg #[I k, I d, I a, I b, I op, I n, .string nm, ag], nv] w (InsPost w) := by
  have H9 := Lib.hid h9
  have HK := Lib.hid hk
  have HD := Lib.hid hd
  have HA := Lib.hid ha
  have HB := Lib.hid hb
  have HO := Lib.hid hop
  have HN := Lib.hid hn
  clear h9 hk hd ha hb hop hn
  go_enter Try.func27, Try.ntmps27
  go_wp2_with (first
    | (go_at_call 28; (with_reducible refine (pick_at k 9 0 _ HK.out (by omega) (by omega) H9.out).mono ?_); rintro e w' ⟨rfl, rfl⟩)
    | (go_at_call 28; (with_reducible refine (pick_ex d 10 _ HD.out (by omega) (by omega)).mono ?_); rintro e w' ⟨rd, rfl, rd0, rd1, rfl⟩)
    | (go_at_call 28; (with_reducible refine (pick_ex a 10 _ HA.out (by omega) (by omega)).mono ?_); rintro e w' ⟨ra, rfl, ra0, ra1, rfl⟩)
    | (go_at_call 28; (with_reducible refine (pick_ex b 10 _ HB.out (by omega) (by omega)).mono ?_); rintro e w' ⟨rb, rfl, rb0, rb1, rfl⟩)
    | (go_at_call 28; (with_reducible refine (pick_ex op _ _ HO.out (by omega) (by omega)).mono ?_); rintro e w' ⟨ro, rfl, ro0, ro1, rfl⟩))
  refine bodyPost_ret (v := .agg #[.int .i64 1, .int .i64 rd, .int .i64 0, .int .i64 0, .int .i64 0, .int .i64 n, .string ⟨#[]⟩, .slice none 0 0]) (by simp [results, go_sem]) rfl ?_
  exact ⟨⟨1, rd, 0, 0, 0, n, ⟨#[]⟩, []⟩, _, rfl, GoodIns.of (by omega) (by omega) (by omega) (by omega) (by simp) (by simp), OwnInts.nil _ _, (below_a2 _ _ _).alloc (by simp; omega) _⟩

set_option maxRecDepth 100000 in
set_option maxHeartbeats 4000000 in
theorem ins_2 (k d a b op n : Int) (nm : ByteArray) (ag nv : Value) (w : World) (hk : InI k) (hd : InI d) (ha : InI a) (hb : InI b) (hop : InI op) (hn : InI n) (h9 : pickI k 9 = 1) :
    Calls Try.prog 27 #[.agg #[I k, I d, I a, I b, I op, I n, .string nm, ag], nv] w (InsPost w) := by
  have H9 := Lib.hid h9
  have HK := Lib.hid hk
  have HD := Lib.hid hd
  have HA := Lib.hid ha
  have HB := Lib.hid hb
  have HO := Lib.hid hop
  have HN := Lib.hid hn
  clear h9 hk hd ha hb hop hn
  go_enter Try.func27, Try.ntmps27
  go_wp2_with (first
    | (go_at_call 28; (with_reducible refine (pick_at k 9 1 _ HK.out (by omega) (by omega) H9.out).mono ?_); rintro e w' ⟨rfl, rfl⟩)
    | (go_at_call 28; (with_reducible refine (pick_ex d 10 _ HD.out (by omega) (by omega)).mono ?_); rintro e w' ⟨rd, rfl, rd0, rd1, rfl⟩)
    | (go_at_call 28; (with_reducible refine (pick_ex a 10 _ HA.out (by omega) (by omega)).mono ?_); rintro e w' ⟨ra, rfl, ra0, ra1, rfl⟩)
    | (go_at_call 28; (with_reducible refine (pick_ex b 10 _ HB.out (by omega) (by omega)).mono ?_); rintro e w' ⟨rb, rfl, rb0, rb1, rfl⟩)
    | (go_at_call 28; (with_reducible refine (pick_ex op _ _ HO.out (by omega) (by omega)).mono ?_); rintro e w' ⟨ro, rfl, ro0, ro1, rfl⟩))
  refine bodyPost_ret (v := .agg #[.int .i64 2, .int .i64 rd, .int .i64 ra, .int .i64 0, .int .i64 0, .int .i64 0, .string ⟨#[]⟩, .slice none 0 0]) (by simp [results, go_sem]) rfl ?_
  exact ⟨⟨2, rd, ra, 0, 0, 0, ⟨#[]⟩, []⟩, _, rfl, GoodIns.of (by omega) (by omega) (by omega) (by omega) (by simp) (by simp), OwnInts.nil _ _, (below_a2 _ _ _).alloc (by simp; omega) _⟩

set_option maxRecDepth 100000 in
set_option maxHeartbeats 4000000 in
theorem ins_3 (k d a b op n : Int) (nm : ByteArray) (ag nv : Value) (w : World) (hk : InI k) (hd : InI d) (ha : InI a) (hb : InI b) (hop : InI op) (hn : InI n) (h9 : pickI k 9 = 2) :
    Calls Try.prog 27 #[.agg #[I k, I d, I a, I b, I op, I n, .string nm, ag], nv] w (InsPost w) := by
  have H9 := Lib.hid h9
  have HK := Lib.hid hk
  have HD := Lib.hid hd
  have HA := Lib.hid ha
  have HB := Lib.hid hb
  have HO := Lib.hid hop
  have HN := Lib.hid hn
  clear h9 hk hd ha hb hop hn
  go_enter Try.func27, Try.ntmps27
  go_wp2_with (first
    | (go_at_call 28; (with_reducible refine (pick_at k 9 2 _ HK.out (by omega) (by omega) H9.out).mono ?_); rintro e w' ⟨rfl, rfl⟩)
    | (go_at_call 28; (with_reducible refine (pick_ex d 10 _ HD.out (by omega) (by omega)).mono ?_); rintro e w' ⟨rd, rfl, rd0, rd1, rfl⟩)
    | (go_at_call 28; (with_reducible refine (pick_ex a 10 _ HA.out (by omega) (by omega)).mono ?_); rintro e w' ⟨ra, rfl, ra0, ra1, rfl⟩)
    | (go_at_call 28; (with_reducible refine (pick_ex b 10 _ HB.out (by omega) (by omega)).mono ?_); rintro e w' ⟨rb, rfl, rb0, rb1, rfl⟩)
    | (go_at_call 28; (with_reducible refine (pick_ex op _ _ HO.out (by omega) (by omega)).mono ?_); rintro e w' ⟨ro, rfl, ro0, ro1, rfl⟩))
  refine bodyPost_ret (v := .agg #[.int .i64 3, .int .i64 rd, .int .i64 ra, .int .i64 0, .int .i64 (17 + ro), .int .i64 0, .string ⟨#[]⟩, .slice none 0 0]) (by simp [results, go_sem]) rfl ?_
  exact ⟨⟨3, rd, ra, 0, (17 + ro), 0, ⟨#[]⟩, []⟩, _, rfl, GoodIns.of (by omega) (by omega) (by omega) (by omega) (by simp) (by simp), OwnInts.nil _ _, (below_a2 _ _ _).alloc (by simp; omega) _⟩

set_option maxRecDepth 100000 in
set_option maxHeartbeats 4000000 in
theorem ins_4 (k d a b op n : Int) (nm : ByteArray) (ag nv : Value) (w : World) (hk : InI k) (hd : InI d) (ha : InI a) (hb : InI b) (hop : InI op) (hn : InI n) (h9 : pickI k 9 = 3) :
    Calls Try.prog 27 #[.agg #[I k, I d, I a, I b, I op, I n, .string nm, ag], nv] w (InsPost w) := by
  have H9 := Lib.hid h9
  have HK := Lib.hid hk
  have HD := Lib.hid hd
  have HA := Lib.hid ha
  have HB := Lib.hid hb
  have HO := Lib.hid hop
  have HN := Lib.hid hn
  clear h9 hk hd ha hb hop hn
  go_enter Try.func27, Try.ntmps27
  go_wp2_with (first
    | (go_at_call 28; (with_reducible refine (pick_at k 9 3 _ HK.out (by omega) (by omega) H9.out).mono ?_); rintro e w' ⟨rfl, rfl⟩)
    | (go_at_call 28; (with_reducible refine (pick_ex d 10 _ HD.out (by omega) (by omega)).mono ?_); rintro e w' ⟨rd, rfl, rd0, rd1, rfl⟩)
    | (go_at_call 28; (with_reducible refine (pick_ex a 10 _ HA.out (by omega) (by omega)).mono ?_); rintro e w' ⟨ra, rfl, ra0, ra1, rfl⟩)
    | (go_at_call 28; (with_reducible refine (pick_ex b 10 _ HB.out (by omega) (by omega)).mono ?_); rintro e w' ⟨rb, rfl, rb0, rb1, rfl⟩)
    | (go_at_call 28; (with_reducible refine (pick_ex op _ _ HO.out (by omega) (by omega)).mono ?_); rintro e w' ⟨ro, rfl, ro0, ro1, rfl⟩))
  refine bodyPost_ret (v := .agg #[.int .i64 4, .int .i64 rd, .int .i64 ra, .int .i64 rb, .int .i64 (1 + ro), .int .i64 0, .string ⟨#[]⟩, .slice none 0 0]) (by simp [results, go_sem]) rfl ?_
  exact ⟨⟨4, rd, ra, rb, (1 + ro), 0, ⟨#[]⟩, []⟩, _, rfl, GoodIns.of (by omega) (by omega) (by omega) (by omega) (by simp) (by simp), OwnInts.nil _ _, (below_a2 _ _ _).alloc (by simp; omega) _⟩

set_option maxRecDepth 100000 in
set_option maxHeartbeats 4000000 in
theorem ins_5a (k d a b op n : Int) (nm : ByteArray) (ag nv : Value) (w : World) (hk : InI k) (hd : InI d) (ha : InI a) (hb : InI b) (hop : InI op) (hn : InI n) (h9 : pickI k 9 = 4) (h2 : pickI n 2 = 0) :
    Calls Try.prog 27 #[.agg #[I k, I d, I a, I b, I op, I n, .string nm, ag], nv] w (InsPost w) := by
  have H9 := Lib.hid h9
  have HK := Lib.hid hk
  have HD := Lib.hid hd
  have HA := Lib.hid ha
  have HB := Lib.hid hb
  have HO := Lib.hid hop
  have HN := Lib.hid hn
  have H2 := Lib.hid h2
  clear h2 h9 hk hd ha hb hop hn
  go_enter Try.func27, Try.ntmps27
  go_wp2_with (first
    | (go_at_call 28; (with_reducible refine (pick_at k 9 4 _ HK.out (by omega) (by omega) H9.out).mono ?_); rintro e w' ⟨rfl, rfl⟩)
    | (go_at_call 28; (with_reducible refine (pick_at n 2 0 _ HN.out (by omega) (by omega) H2.out).mono ?_); rintro e w' ⟨rfl, rfl⟩)
    | (go_at_call 28; (with_reducible refine (pick_ex d 10 _ HD.out (by omega) (by omega)).mono ?_); rintro e w' ⟨rd, rfl, rd0, rd1, rfl⟩)
    | (go_at_call 28; (with_reducible refine (pick_ex a 10 _ HA.out (by omega) (by omega)).mono ?_); rintro e w' ⟨ra, rfl, ra0, ra1, rfl⟩)
    | (go_at_call 28; (with_reducible refine (pick_ex b 10 _ HB.out (by omega) (by omega)).mono ?_); rintro e w' ⟨rb, rfl, rb0, rb1, rfl⟩)
    | (go_at_call 28; (with_reducible refine (pick_ex op _ _ HO.out (by omega) (by omega)).mono ?_); rintro e w' ⟨ro, rfl, ro0, ro1, rfl⟩))
  refine bodyPost_ret (v := .agg #[.int .i64 5, .int .i64 rd, .int .i64 ra, .int .i64 0, .int .i64 0, .int .i64 0, .string ⟨#[97]⟩, .slice none 0 0]) (by simp [results, go_sem]) rfl ?_
  exact ⟨⟨5, rd, ra, 0, 0, 0, ⟨#[97]⟩, []⟩, _, rfl, GoodIns.of (by omega) (by omega) (by omega) (by omega) (by simp) (by simp), OwnInts.nil _ _, ((below_a2 _ _ _).alloc (by simp; omega) _).alloc (by simp; omega) _⟩

set_option maxRecDepth 100000 in
set_option maxHeartbeats 4000000 in
theorem ins_6a (k d a b op n : Int) (nm : ByteArray) (ag nv : Value) (w : World) (hk : InI k) (hd : InI d) (ha : InI a) (hb : InI b) (hop : InI op) (hn : InI n) (h9 : pickI k 9 = 5) (h2 : pickI n 2 = 0) :
    Calls Try.prog 27 #[.agg #[I k, I d, I a, I b, I op, I n, .string nm, ag], nv] w (InsPost w) := by
  have H9 := Lib.hid h9
  have HK := Lib.hid hk
  have HD := Lib.hid hd
  have HA := Lib.hid ha
  have HB := Lib.hid hb
  have HO := Lib.hid hop
  have HN := Lib.hid hn
  have H2 := Lib.hid h2
  clear h2 h9 hk hd ha hb hop hn
  go_enter Try.func27, Try.ntmps27
  go_wp2_with (first
    | (go_at_call 28; (with_reducible refine (pick_at k 9 5 _ HK.out (by omega) (by omega) H9.out).mono ?_); rintro e w' ⟨rfl, rfl⟩)
    | (go_at_call 28; (with_reducible refine (pick_at n 2 0 _ HN.out (by omega) (by omega) H2.out).mono ?_); rintro e w' ⟨rfl, rfl⟩)
    | (go_at_call 28; (with_reducible refine (pick_ex d 10 _ HD.out (by omega) (by omega)).mono ?_); rintro e w' ⟨rd, rfl, rd0, rd1, rfl⟩)
    | (go_at_call 28; (with_reducible refine (pick_ex a 10 _ HA.out (by omega) (by omega)).mono ?_); rintro e w' ⟨ra, rfl, ra0, ra1, rfl⟩)
    | (go_at_call 28; (with_reducible refine (pick_ex b 10 _ HB.out (by omega) (by omega)).mono ?_); rintro e w' ⟨rb, rfl, rb0, rb1, rfl⟩)
    | (go_at_call 28; (with_reducible refine (pick_ex op _ _ HO.out (by omega) (by omega)).mono ?_); rintro e w' ⟨ro, rfl, ro0, ro1, rfl⟩))
  refine bodyPost_ret (v := .agg #[.int .i64 6, .int .i64 0, .int .i64 ra, .int .i64 rb, .int .i64 0, .int .i64 0, .string ⟨#[97]⟩, .slice none 0 0]) (by simp [results, go_sem]) rfl ?_
  exact ⟨⟨6, 0, ra, rb, 0, 0, ⟨#[97]⟩, []⟩, _, rfl, GoodIns.of (by omega) (by omega) (by omega) (by omega) (by simp) (by simp), OwnInts.nil _ _, ((below_a2 _ _ _).alloc (by simp; omega) _).alloc (by simp; omega) _⟩

set_option maxRecDepth 100000 in
set_option maxHeartbeats 4000000 in
theorem ins_5b (k d a b op n : Int) (nm : ByteArray) (ag nv : Value) (w : World) (hk : InI k) (hd : InI d) (ha : InI a) (hb : InI b) (hop : InI op) (hn : InI n) (h9 : pickI k 9 = 4) (h2 : pickI n 2 = 1) :
    Calls Try.prog 27 #[.agg #[I k, I d, I a, I b, I op, I n, .string nm, ag], nv] w (InsPost w) := by
  have H9 := Lib.hid h9
  have HK := Lib.hid hk
  have HD := Lib.hid hd
  have HA := Lib.hid ha
  have HB := Lib.hid hb
  have HO := Lib.hid hop
  have HN := Lib.hid hn
  have H2 := Lib.hid h2
  clear h2 h9 hk hd ha hb hop hn
  go_enter Try.func27, Try.ntmps27
  go_wp2_with (first
    | (go_at_call 28; (with_reducible refine (pick_at k 9 4 _ HK.out (by omega) (by omega) H9.out).mono ?_); rintro e w' ⟨rfl, rfl⟩)
    | (go_at_call 28; (with_reducible refine (pick_at n 2 1 _ HN.out (by omega) (by omega) H2.out).mono ?_); rintro e w' ⟨rfl, rfl⟩)
    | (go_at_call 28; (with_reducible refine (pick_ex d 10 _ HD.out (by omega) (by omega)).mono ?_); rintro e w' ⟨rd, rfl, rd0, rd1, rfl⟩)
    | (go_at_call 28; (with_reducible refine (pick_ex a 10 _ HA.out (by omega) (by omega)).mono ?_); rintro e w' ⟨ra, rfl, ra0, ra1, rfl⟩)
    | (go_at_call 28; (with_reducible refine (pick_ex b 10 _ HB.out (by omega) (by omega)).mono ?_); rintro e w' ⟨rb, rfl, rb0, rb1, rfl⟩)
    | (go_at_call 28; (with_reducible refine (pick_ex op _ _ HO.out (by omega) (by omega)).mono ?_); rintro e w' ⟨ro, rfl, ro0, ro1, rfl⟩))
  refine bodyPost_ret (v := .agg #[.int .i64 5, .int .i64 rd, .int .i64 ra, .int .i64 0, .int .i64 0, .int .i64 0, .string ⟨#[98]⟩, .slice none 0 0]) (by simp [results, go_sem]) rfl ?_
  exact ⟨⟨5, rd, ra, 0, 0, 0, ⟨#[98]⟩, []⟩, _, rfl, GoodIns.of (by omega) (by omega) (by omega) (by omega) (by simp) (by simp), OwnInts.nil _ _, ((below_a2 _ _ _).alloc (by simp; omega) _).alloc (by simp; omega) _⟩

set_option maxRecDepth 100000 in
set_option maxHeartbeats 4000000 in
theorem ins_6b (k d a b op n : Int) (nm : ByteArray) (ag nv : Value) (w : World) (hk : InI k) (hd : InI d) (ha : InI a) (hb : InI b) (hop : InI op) (hn : InI n) (h9 : pickI k 9 = 5) (h2 : pickI n 2 = 1) :
    Calls Try.prog 27 #[.agg #[I k, I d, I a, I b, I op, I n, .string nm, ag], nv] w (InsPost w) := by
  have H9 := Lib.hid h9
  have HK := Lib.hid hk
  have HD := Lib.hid hd
  have HA := Lib.hid ha
  have HB := Lib.hid hb
  have HO := Lib.hid hop
  have HN := Lib.hid hn
  have H2 := Lib.hid h2
  clear h2 h9 hk hd ha hb hop hn
  go_enter Try.func27, Try.ntmps27
  go_wp2_with (first
    | (go_at_call 28; (with_reducible refine (pick_at k 9 5 _ HK.out (by omega) (by omega) H9.out).mono ?_); rintro e w' ⟨rfl, rfl⟩)
    | (go_at_call 28; (with_reducible refine (pick_at n 2 1 _ HN.out (by omega) (by omega) H2.out).mono ?_); rintro e w' ⟨rfl, rfl⟩)
    | (go_at_call 28; (with_reducible refine (pick_ex d 10 _ HD.out (by omega) (by omega)).mono ?_); rintro e w' ⟨rd, rfl, rd0, rd1, rfl⟩)
    | (go_at_call 28; (with_reducible refine (pick_ex a 10 _ HA.out (by omega) (by omega)).mono ?_); rintro e w' ⟨ra, rfl, ra0, ra1, rfl⟩)
    | (go_at_call 28; (with_reducible refine (pick_ex b 10 _ HB.out (by omega) (by omega)).mono ?_); rintro e w' ⟨rb, rfl, rb0, rb1, rfl⟩)
    | (go_at_call 28; (with_reducible refine (pick_ex op _ _ HO.out (by omega) (by omega)).mono ?_); rintro e w' ⟨ro, rfl, ro0, ro1, rfl⟩))
  refine bodyPost_ret (v := .agg #[.int .i64 6, .int .i64 0, .int .i64 ra, .int .i64 rb, .int .i64 0, .int .i64 0, .string ⟨#[98]⟩, .slice none 0 0]) (by simp [results, go_sem]) rfl ?_
  exact ⟨⟨6, 0, ra, rb, 0, 0, ⟨#[98]⟩, []⟩, _, rfl, GoodIns.of (by omega) (by omega) (by omega) (by omega) (by simp) (by simp), OwnInts.nil _ _, ((below_a2 _ _ _).alloc (by simp; omega) _).alloc (by simp; omega) _⟩

set_option maxRecDepth 100000 in
set_option maxHeartbeats 4000000 in
theorem ins_7 (k d a b op n : Int) (nm : ByteArray) (ag nv : Value) (w : World) (hk : InI k) (hd : InI d) (ha : InI a) (hb : InI b) (hop : InI op) (hn : InI n) (h9 : pickI k 9 = 6) :
    Calls Try.prog 27 #[.agg #[I k, I d, I a, I b, I op, I n, .string nm, ag], nv] w (InsPost w) := by
  have H9 := Lib.hid h9
  have HK := Lib.hid hk
  have HD := Lib.hid hd
  have HA := Lib.hid ha
  have HB := Lib.hid hb
  have HO := Lib.hid hop
  have HN := Lib.hid hn
  clear h9 hk hd ha hb hop hn
  go_enter Try.func27, Try.ntmps27
  go_wp2_with (first
    | (go_at_call 28; (with_reducible refine (pick_at k 9 6 _ HK.out (by omega) (by omega) H9.out).mono ?_); rintro e w' ⟨rfl, rfl⟩)
    | (go_at_call 28; (with_reducible refine (pick_ex d 10 _ HD.out (by omega) (by omega)).mono ?_); rintro e w' ⟨rd, rfl, rd0, rd1, rfl⟩)
    | (go_at_call 28; (with_reducible refine (pick_ex a 10 _ HA.out (by omega) (by omega)).mono ?_); rintro e w' ⟨ra, rfl, ra0, ra1, rfl⟩)
    | (go_at_call 28; (with_reducible refine (pick_ex b 10 _ HB.out (by omega) (by omega)).mono ?_); rintro e w' ⟨rb, rfl, rb0, rb1, rfl⟩)
    | (go_at_call 28; (with_reducible refine (pick_ex op _ _ HO.out (by omega) (by omega)).mono ?_); rintro e w' ⟨ro, rfl, ro0, ro1, rfl⟩))
  refine bodyPost_ret (v := .agg #[.int .i64 7, .int .i64 rd, .int .i64 0, .int .i64 0, .int .i64 0, .int .i64 0, .string ⟨#[]⟩, .slice none 0 0]) (by simp [results, go_sem]) rfl ?_
  exact ⟨⟨7, rd, 0, 0, 0, 0, ⟨#[]⟩, []⟩, _, rfl, GoodIns.of (by omega) (by omega) (by omega) (by omega) (by simp) (by simp), OwnInts.nil _ _, (below_a2 _ _ _).alloc (by simp; omega) _⟩

set_option maxRecDepth 100000 in
set_option maxHeartbeats 4000000 in
theorem ins_8 (k d a b op n : Int) (nm : ByteArray) (ag nv : Value) (w : World) (hk : InI k) (hd : InI d) (ha : InI a) (hb : InI b) (hop : InI op) (hn : InI n) (h9 : pickI k 9 = 7) :
    Calls Try.prog 27 #[.agg #[I k, I d, I a, I b, I op, I n, .string nm, ag], nv] w (InsPost w) := by
  have H9 := Lib.hid h9
  have HK := Lib.hid hk
  have HD := Lib.hid hd
  have HA := Lib.hid ha
  have HB := Lib.hid hb
  have HO := Lib.hid hop
  have HN := Lib.hid hn
  clear h9 hk hd ha hb hop hn
  go_enter Try.func27, Try.ntmps27
  go_wp2_with (first
    | (go_at_call 28; (with_reducible refine (pick_at k 9 7 _ HK.out (by omega) (by omega) H9.out).mono ?_); rintro e w' ⟨rfl, rfl⟩)
    | (go_at_call 28; (with_reducible refine (pick_ex d 10 _ HD.out (by omega) (by omega)).mono ?_); rintro e w' ⟨rd, rfl, rd0, rd1, rfl⟩)
    | (go_at_call 28; (with_reducible refine (pick_ex a 10 _ HA.out (by omega) (by omega)).mono ?_); rintro e w' ⟨ra, rfl, ra0, ra1, rfl⟩)
    | (go_at_call 28; (with_reducible refine (pick_ex b 10 _ HB.out (by omega) (by omega)).mono ?_); rintro e w' ⟨rb, rfl, rb0, rb1, rfl⟩)
    | (go_at_call 28; (with_reducible refine (pick_ex op _ _ HO.out (by omega) (by omega)).mono ?_); rintro e w' ⟨ro, rfl, ro0, ro1, rfl⟩))
  refine bodyPost_ret (v := .agg #[.int .i64 8, .int .i64 0, .int .i64 ra, .int .i64 0, .int .i64 0, .int .i64 0, .string ⟨#[]⟩, .slice none 0 0]) (by simp [results, go_sem]) rfl ?_
  exact ⟨⟨8, 0, ra, 0, 0, 0, ⟨#[]⟩, []⟩, _, rfl, GoodIns.of (by omega) (by omega) (by omega) (by omega) (by simp) (by simp), OwnInts.nil _ _, (below_a2 _ _ _).alloc (by simp; omega) _⟩

end Go.Proofs.Ytdlcpmjhngfgkaa
