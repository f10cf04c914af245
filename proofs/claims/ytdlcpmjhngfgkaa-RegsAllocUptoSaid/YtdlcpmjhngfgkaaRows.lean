/-
  No cell of these rows narrows 'for every input' (looked for: loops, veiled, ifaces, maps, wideKeys, modest, calm, conditions, laid).
  DERIVED. THE GIVEN ROWS OF THIS SEAT. 3 by the template 'for every input the law returns true; each argument reads behind the call as it read before'; 0 by the template 'total and deterministic' (their statements: YtdlcpmjhngfgkaaTotals.lean).
  GIVEN WITH THE SEED: the statements are not yours to turn. If you find one false, say at which input.
  Laid BY PROGRAM, IN A SANDBOX (cutbox-rows.mjs): the forced cells as the released guide's own fill.sh prints them over the translation db3b3f80447620ab… (all of the seat's roots in one cut). By AI agents, Wed Nov 11 2026. No macro, syntax, notation, axiom, sorry.
-/
import Derived.Test.YtdlcpmjhngfgkaaChecked
import GoSem.Claim
import GoSem.ClaimJoined
import GoSem.ClaimMapViews
import Derived.JoinedTies
import Derived.KernelRfl
namespace Go.Proofs.Ytdlcpmjhngfgkaa
/- THE CELL 'sum', in the pinned program and in every row, IS THE sha256 OF THE DUMP (.gsa) THAT YtdlcpmjhngfgkaaProg.lean LOADS. Nothing in Lean hashes anything: it is a label: what it is worth is what the hold of that sum in a sandbox is worth. -/
noncomputable def Try.pinned : Pinned := { name := "ytdlcpmjhngfgkaa", sum := "db3b3f80447620abfe7c6bd27f14ae841f9476a9d71b16e394755d208f27fbf3", checked := Try.checked }
namespace Rows
def none {H : Type} : Left H := { results := [], args := [] }

/-- 'counterprooflaw16.RegsAlloc': WHATEVER THE INPUT: true; the input reads as it did. -/
def regsAllocSpec : ChangeSpec := { name := "regsAlloc", fn := fun _ => fun
  | [d1, d2, d3, d4] => { results := [.lit (.bool true)], args := [d1, d2, d3, d4] }
  | _ => none }
def regsAllocRow : OpenClaim := { program := "ytdlcpmjhngfgkaa", sum := "db3b3f80447620abfe7c6bd27f14ae841f9476a9d71b16e394755d208f27fbf3", func := "counterproof/counterprooflaw16.RegsAlloc", spec := "regsAlloc", unfollowed := true, recurses := true, plainKeys := false, apart := false }
def RegsAllocSaid : Prop := regsAllocRow.holds Try.pinned (OpenSpec.ofChange regsAllocSpec)

/-- ITS FALSE NEIGHBOUR: 'it returns false'. Refute it at one input. -/
def regsAllocWrong : ChangeSpec := { name := "regsAlloc", fn := fun _ => fun
  | [d1, d2, d3, d4] => { results := [.lit (.bool false)], args := [d1, d2, d3, d4] }
  | _ => none }
def RegsAllocWrongFalsely : Prop := regsAllocRow.holds Try.pinned (OpenSpec.ofChange regsAllocWrong)

/-- 'counterprooflaw16.RegsOwn': WHATEVER THE INPUT: true; the input reads as it did. -/
def regsOwnSpec : ChangeSpec := { name := "regsOwn", fn := fun _ => fun
  | [d1, d2, d3] => { results := [.lit (.bool true)], args := [d1, d2, d3] }
  | _ => none }
def regsOwnRow : OpenClaim := { program := "ytdlcpmjhngfgkaa", sum := "db3b3f80447620abfe7c6bd27f14ae841f9476a9d71b16e394755d208f27fbf3", func := "counterproof/counterprooflaw16.RegsOwn", spec := "regsOwn", unfollowed := true, recurses := true, plainKeys := false, apart := false }
def RegsOwnSaid : Prop := regsOwnRow.holds Try.pinned (OpenSpec.ofChange regsOwnSpec)

/-- ITS FALSE NEIGHBOUR: 'it returns false'. Refute it at one input. -/
def regsOwnWrong : ChangeSpec := { name := "regsOwn", fn := fun _ => fun
  | [d1, d2, d3] => { results := [.lit (.bool false)], args := [d1, d2, d3] }
  | _ => none }
def RegsOwnWrongFalsely : Prop := regsOwnRow.holds Try.pinned (OpenSpec.ofChange regsOwnWrong)

/-- 'counterprooflaw16.RegsEnough': WHATEVER THE INPUT: true; the input reads as it did. -/
def regsEnoughSpec : ChangeSpec := { name := "regsEnough", fn := fun _ => fun
  | [d1, d2] => { results := [.lit (.bool true)], args := [d1, d2] }
  | _ => none }
def regsEnoughRow : OpenClaim := { program := "ytdlcpmjhngfgkaa", sum := "db3b3f80447620abfe7c6bd27f14ae841f9476a9d71b16e394755d208f27fbf3", func := "counterproof/counterprooflaw16.RegsEnough", spec := "regsEnough", unfollowed := true, recurses := true, plainKeys := false, apart := false }
def RegsEnoughSaid : Prop := regsEnoughRow.holds Try.pinned (OpenSpec.ofChange regsEnoughSpec)

/-- ITS FALSE NEIGHBOUR: 'it returns false'. Refute it at one input. -/
def regsEnoughWrong : ChangeSpec := { name := "regsEnough", fn := fun _ => fun
  | [d1, d2] => { results := [.lit (.bool false)], args := [d1, d2] }
  | _ => none }
def RegsEnoughWrongFalsely : Prop := regsEnoughRow.holds Try.pinned (OpenSpec.ofChange regsEnoughWrong)

/- THE SECOND FORM. 'bulk': how many values and letters a reading holds, each counted each time it is reached (what is shared counts as often as it is met; a slice's spare places count too). A statement '..UptoSaid' is the law's where the arguments, and the package variables that the reading takes, are together of bulk at most 1048576: NARROWER than '..Said'. Prove '..Said' where nothing that the law and all that it calls make is longer than what came in: it says more and counts as full. Else prove '..UptoSaid'. A law counts once. -/
mutual
def uptoBulk {H : Type} : DataW H → Nat
  | .lit (.string bytes) => bytes.length + 1
  | .lit _ => 1
  | .nil => 1
  | .ptr d => uptoBulk d + 1
  | .slice elems spare => uptoBulkAll elems + uptoBulkAll spare + 1
  | .agg parts => uptoBulkAll parts + 1
  | .iface _ d => uptoBulk d + 1
  | .map entries => uptoBulkEntries entries + 1
  | .held _ => 1
def uptoBulkAll {H : Type} : List (DataW H) → Nat
  | [] => 0
  | d :: r => uptoBulk d + uptoBulkAll r
def uptoBulkEntries {H : Type} : List (Lit × DataW H) → Nat
  | [] => 0
  | x :: r => uptoBulkEntry x + uptoBulkEntries r
def uptoBulkEntry {H : Type} : Lit × DataW H → Nat
  | (.string bytes, d) => bytes.length + uptoBulk d + 1
  | (_, d) => uptoBulk d + 1
 end
def uptoSmall : (H : Type) → List (DataW H) → Bool := fun _ ds => decide (uptoBulkAll ds ≤ 1048576)
def OpenSpec.upto (s : _root_.Go.ChangeSpec) : _root_.Go.OpenSpec := { _root_.Go.OpenSpec.ofChange s with cond := some uptoSmall }

/-- 'counterprooflaw16.RegsAlloc', WHERE WHAT IT READS IS OF BULK AT MOST 1048576: true; the input reads as it did. -/
def regsAllocUptoRow : OpenClaim := { program := "ytdlcpmjhngfgkaa", sum := "db3b3f80447620abfe7c6bd27f14ae841f9476a9d71b16e394755d208f27fbf3", func := "counterproof/counterprooflaw16.RegsAlloc", spec := "regsAlloc", unfollowed := true, recurses := true, plainKeys := false, apart := false, narrowed := true }
def RegsAllocUptoSaid : Prop := regsAllocUptoRow.holds Try.pinned (OpenSpec.upto regsAllocSpec)

/-- 'counterprooflaw16.RegsOwn', WHERE WHAT IT READS IS OF BULK AT MOST 1048576: true; the input reads as it did. -/
def regsOwnUptoRow : OpenClaim := { program := "ytdlcpmjhngfgkaa", sum := "db3b3f80447620abfe7c6bd27f14ae841f9476a9d71b16e394755d208f27fbf3", func := "counterproof/counterprooflaw16.RegsOwn", spec := "regsOwn", unfollowed := true, recurses := true, plainKeys := false, apart := false, narrowed := true }
def RegsOwnUptoSaid : Prop := regsOwnUptoRow.holds Try.pinned (OpenSpec.upto regsOwnSpec)

/-- 'counterprooflaw16.RegsEnough', WHERE WHAT IT READS IS OF BULK AT MOST 1048576: true; the input reads as it did. -/
def regsEnoughUptoRow : OpenClaim := { program := "ytdlcpmjhngfgkaa", sum := "db3b3f80447620abfe7c6bd27f14ae841f9476a9d71b16e394755d208f27fbf3", func := "counterproof/counterprooflaw16.RegsEnough", spec := "regsEnough", unfollowed := true, recurses := true, plainKeys := false, apart := false, narrowed := true }
def RegsEnoughUptoSaid : Prop := regsEnoughUptoRow.holds Try.pinned (OpenSpec.upto regsEnoughSpec)

end Rows
end Go.Proofs.Ytdlcpmjhngfgkaa
