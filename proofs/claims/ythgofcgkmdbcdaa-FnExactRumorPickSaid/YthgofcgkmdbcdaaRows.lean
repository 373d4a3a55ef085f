/-
  No cell of these rows narrows 'for every input' (looked for: loops, veiled, ifaces, maps, wideKeys, modest, calm, conditions, laid).
  DERIVED. THE GIVEN ROWS OF THIS SEAT. 5 by the template 'for every input the law returns true; each argument reads behind the call as it read before'; 0 by the template 'total and deterministic' (their statements: YthgofcgkmdbcdaaTotals.lean).
  GIVEN WITH THE SEED: the statements are not yours to turn. If you find one false, say at which input.
  Laid BY PROGRAM, IN A SANDBOX (cutbox-rows.mjs): the forced cells as the released guide's own fill.sh prints them over the translation a82f63015c1fe659… (all of the seat's roots in one cut). By AI agents, Wed Nov 11 2026. No macro, syntax, notation, axiom, sorry.
-/
import Derived.Test.YthgofcgkmdbcdaaChecked
import GoSem.Claim
import GoSem.ClaimJoined
import GoSem.ClaimMapViews
import Derived.JoinedTies
import Derived.KernelRfl
namespace Go.Proofs.Ythgofcgkmdbcdaa
/- THE CELL 'sum', in the pinned program and in every row, IS THE sha256 OF THE DUMP (.gsa) THAT YthgofcgkmdbcdaaProg.lean LOADS. Nothing in Lean hashes anything: it is a label: what it is worth is what the hold of that sum in a sandbox is worth. -/
noncomputable def Try.pinned : Pinned := { name := "ythgofcgkmdbcdaa", sum := "a82f63015c1fe6595e9ad17fa27620743d1c04f1e529deefd3f6f98bb02626a4", checked := Try.checked }
namespace Rows
def none {H : Type} : Left H := { results := [], args := [] }

/-- 'laws.FnExactSetPut': WHATEVER THE INPUT: true; the input reads as it did. -/
def fnExactSetPutSpec : ChangeSpec := { name := "fnExactSetPut", fn := fun _ => fun
  | [d1, d2] => { results := [.lit (.bool true)], args := [d1, d2] }
  | _ => none }
def fnExactSetPutRow : OpenClaim := { program := "ythgofcgkmdbcdaa", sum := "a82f63015c1fe6595e9ad17fa27620743d1c04f1e529deefd3f6f98bb02626a4", func := "loop.example/g00678/laws.FnExactSetPut", spec := "fnExactSetPut", inPlace := ["slices.overlaps[int64]"], apart := false }
def FnExactSetPutSaid : Prop := fnExactSetPutRow.holds Try.pinned (OpenSpec.ofChange fnExactSetPutSpec)

/-- ITS FALSE NEIGHBOUR: 'it returns false'. Refute it at one input. -/
def fnExactSetPutWrong : ChangeSpec := { name := "fnExactSetPut", fn := fun _ => fun
  | [d1, d2] => { results := [.lit (.bool false)], args := [d1, d2] }
  | _ => none }
def FnExactSetPutWrongFalsely : Prop := fnExactSetPutRow.holds Try.pinned (OpenSpec.ofChange fnExactSetPutWrong)

/-- 'laws.FnExactQueuePut': WHATEVER THE INPUT: true; the input reads as it did. -/
def fnExactQueuePutSpec : ChangeSpec := { name := "fnExactQueuePut", fn := fun _ => fun
  | [d1, d2] => { results := [.lit (.bool true)], args := [d1, d2] }
  | _ => none }
def fnExactQueuePutRow : OpenClaim := { program := "ythgofcgkmdbcdaa", sum := "a82f63015c1fe6595e9ad17fa27620743d1c04f1e529deefd3f6f98bb02626a4", func := "loop.example/g00678/laws.FnExactQueuePut", spec := "fnExactQueuePut", inPlace := ["slices.overlaps[loop.example/g00678/impl.Due]"], unfollowed := true, recurses := true, apart := false }
def FnExactQueuePutSaid : Prop := fnExactQueuePutRow.holds Try.pinned (OpenSpec.ofChange fnExactQueuePutSpec)

/-- ITS FALSE NEIGHBOUR: 'it returns false'. Refute it at one input. -/
def fnExactQueuePutWrong : ChangeSpec := { name := "fnExactQueuePut", fn := fun _ => fun
  | [d1, d2] => { results := [.lit (.bool false)], args := [d1, d2] }
  | _ => none }
def FnExactQueuePutWrongFalsely : Prop := fnExactQueuePutRow.holds Try.pinned (OpenSpec.ofChange fnExactQueuePutWrong)

/-- 'laws.FnExactViewPut': WHATEVER THE INPUT: true; the input reads as it did. -/
def fnExactViewPutSpec : ChangeSpec := { name := "fnExactViewPut", fn := fun _ => fun
  | [d1, d2] => { results := [.lit (.bool true)], args := [d1, d2] }
  | _ => none }
def fnExactViewPutRow : OpenClaim := { program := "ythgofcgkmdbcdaa", sum := "a82f63015c1fe6595e9ad17fa27620743d1c04f1e529deefd3f6f98bb02626a4", func := "loop.example/g00678/laws.FnExactViewPut", spec := "fnExactViewPut", inPlace := ["slices.overlaps[loop.example/g00678/impl.Fact]"], unfollowed := true, recurses := true, apart := false }
def FnExactViewPutSaid : Prop := fnExactViewPutRow.holds Try.pinned (OpenSpec.ofChange fnExactViewPutSpec)

/-- ITS FALSE NEIGHBOUR: 'it returns false'. Refute it at one input. -/
def fnExactViewPutWrong : ChangeSpec := { name := "fnExactViewPut", fn := fun _ => fun
  | [d1, d2] => { results := [.lit (.bool false)], args := [d1, d2] }
  | _ => none }
def FnExactViewPutWrongFalsely : Prop := fnExactViewPutRow.holds Try.pinned (OpenSpec.ofChange fnExactViewPutWrong)

/-- 'laws.FnExactViewJoin': WHATEVER THE INPUT: true; the input reads as it did. -/
def fnExactViewJoinSpec : ChangeSpec := { name := "fnExactViewJoin", fn := fun _ => fun
  | [d1, d2] => { results := [.lit (.bool true)], args := [d1, d2] }
  | _ => none }
def fnExactViewJoinRow : OpenClaim := { program := "ythgofcgkmdbcdaa", sum := "a82f63015c1fe6595e9ad17fa27620743d1c04f1e529deefd3f6f98bb02626a4", func := "loop.example/g00678/laws.FnExactViewJoin", spec := "fnExactViewJoin", inPlace := ["slices.overlaps[loop.example/g00678/impl.Fact]"], unfollowed := true, recurses := true, apart := false }
def FnExactViewJoinSaid : Prop := fnExactViewJoinRow.holds Try.pinned (OpenSpec.ofChange fnExactViewJoinSpec)

/-- ITS FALSE NEIGHBOUR: 'it returns false'. Refute it at one input. -/
def fnExactViewJoinWrong : ChangeSpec := { name := "fnExactViewJoin", fn := fun _ => fun
  | [d1, d2] => { results := [.lit (.bool false)], args := [d1, d2] }
  | _ => none }
def FnExactViewJoinWrongFalsely : Prop := fnExactViewJoinRow.holds Try.pinned (OpenSpec.ofChange fnExactViewJoinWrong)

/-- 'laws.FnExactRumorPick': WHATEVER THE INPUT: true; the input reads as it did. -/
def fnExactRumorPickSpec : ChangeSpec := { name := "fnExactRumorPick", fn := fun _ => fun
  | [d1, d2] => { results := [.lit (.bool true)], args := [d1, d2] }
  | _ => none }
def fnExactRumorPickRow : OpenClaim := { program := "ythgofcgkmdbcdaa", sum := "a82f63015c1fe6595e9ad17fa27620743d1c04f1e529deefd3f6f98bb02626a4", func := "loop.example/g00678/laws.FnExactRumorPick", spec := "fnExactRumorPick", inPlace := ["slices.overlaps[loop.example/g00678/impl.Fact]"], unfollowed := true, recurses := true, apart := false }
def FnExactRumorPickSaid : Prop := fnExactRumorPickRow.holds Try.pinned (OpenSpec.ofChange fnExactRumorPickSpec)

/-- ITS FALSE NEIGHBOUR: 'it returns false'. Refute it at one input. -/
def fnExactRumorPickWrong : ChangeSpec := { name := "fnExactRumorPick", fn := fun _ => fun
  | [d1, d2] => { results := [.lit (.bool false)], args := [d1, d2] }
  | _ => none }
def FnExactRumorPickWrongFalsely : Prop := fnExactRumorPickRow.holds Try.pinned (OpenSpec.ofChange fnExactRumorPickWrong)

/- THE SECOND FORM. 'bulk': how many values and letters a reading holds, each counted each time it is reached (what is shared counts as often as it is met; a slice's spare places count too). A statement '..UptoSaid' is the law's where the arguments, and the package variables that the reading takes, are together of bulk at most 1048576: NARROWER than '..Said'. Prove '..Said' where nothing that the law and all that it calls make is longer than what came in: it says more and counts as full. Else prove '..UptoSaid'. A law counts once. -/
mutual
def uptoBulk {H : Type} : DataW H → Nat
  | .lit (.string bytes) => bytes.length + 1
  | .lit _ => 1
  | .nil => 1
  | .ptr d => uptoBulk d + 1
  | .slice elems spare => uptoBulkAll elems + uptoBulkAll spare + 1
  | .agg parts => uptoBulkAll parts + 1
  | .iface _ d => uptoBulk d + 1
  | .map entries => uptoBulkEntries entries + 1
  | .held _ => 1
def uptoBulkAll {H : Type} : List (DataW H) → Nat
  | [] => 0
  | d :: r => uptoBulk d + uptoBulkAll r
def uptoBulkEntries {H : Type} : List (Lit × DataW H) → Nat
  | [] => 0
  | x :: r => uptoBulkEntry x + uptoBulkEntries r
def uptoBulkEntry {H : Type} : Lit × DataW H → Nat
  | (.string bytes, d) => bytes.length + uptoBulk d + 1
  | (_, d) => uptoBulk d + 1
 end
def uptoSmall : (H : Type) → List (DataW H) → Bool := fun _ ds => decide (uptoBulkAll ds ≤ 1048576)
def OpenSpec.upto (s : _root_.Go.ChangeSpec) : _root_.Go.OpenSpec := { _root_.Go.OpenSpec.ofChange s with cond := some uptoSmall }

/-- 'laws.FnExactSetPut', WHERE WHAT IT READS IS OF BULK AT MOST 1048576: true; the input reads as it did. -/
def fnExactSetPutUptoRow : OpenClaim := { program := "ythgofcgkmdbcdaa", sum := "a82f63015c1fe6595e9ad17fa27620743d1c04f1e529deefd3f6f98bb02626a4", func := "loop.example/g00678/laws.FnExactSetPut", spec := "fnExactSetPut", inPlace := ["slices.overlaps[int64]"], apart := false, narrowed := true }
def FnExactSetPutUptoSaid : Prop := fnExactSetPutUptoRow.holds Try.pinned (OpenSpec.upto fnExactSetPutSpec)

/-- 'laws.FnExactQueuePut', WHERE WHAT IT READS IS OF BULK AT MOST 1048576: true; the input reads as it did. -/
def fnExactQueuePutUptoRow : OpenClaim := { program := "ythgofcgkmdbcdaa", sum := "a82f63015c1fe6595e9ad17fa27620743d1c04f1e529deefd3f6f98bb02626a4", func := "loop.example/g00678/laws.FnExactQueuePut", spec := "fnExactQueuePut", inPlace := ["slices.overlaps[loop.example/g00678/impl.Due]"], unfollowed := true, recurses := true, apart := false, narrowed := true }
def FnExactQueuePutUptoSaid : Prop := fnExactQueuePutUptoRow.holds Try.pinned (OpenSpec.upto fnExactQueuePutSpec)

/-- 'laws.FnExactViewPut', WHERE WHAT IT READS IS OF BULK AT MOST 1048576: true; the input reads as it did. -/
def fnExactViewPutUptoRow : OpenClaim := { program := "ythgofcgkmdbcdaa", sum := "a82f63015c1fe6595e9ad17fa27620743d1c04f1e529deefd3f6f98bb02626a4", func := "loop.example/g00678/laws.FnExactViewPut", spec := "fnExactViewPut", inPlace := ["slices.overlaps[loop.example/g00678/impl.Fact]"], unfollowed := true, recurses := true, apart := false, narrowed := true }
def FnExactViewPutUptoSaid : Prop := fnExactViewPutUptoRow.holds Try.pinned (OpenSpec.upto fnExactViewPutSpec)

/-- 'laws.FnExactViewJoin', WHERE WHAT IT READS IS OF BULK AT MOST 1048576: true; the input reads as it did. -/
def fnExactViewJoinUptoRow : OpenClaim := { program := "ythgofcgkmdbcdaa", sum := "a82f63015c1fe6595e9ad17fa27620743d1c04f1e529deefd3f6f98bb02626a4", func := "loop.example/g00678/laws.FnExactViewJoin", spec := "fnExactViewJoin", inPlace := ["slices.overlaps[loop.example/g00678/impl.Fact]"], unfollowed := true, recurses := true, apart := false, narrowed := true }
def FnExactViewJoinUptoSaid : Prop := fnExactViewJoinUptoRow.holds Try.pinned (OpenSpec.upto fnExactViewJoinSpec)

/-- 'laws.FnExactRumorPick', WHERE WHAT IT READS IS OF BULK AT MOST 1048576: true; the input reads as it did. -/
def fnExactRumorPickUptoRow : OpenClaim := { program := "ythgofcgkmdbcdaa", sum := "a82f63015c1fe6595e9ad17fa27620743d1c04f1e529deefd3f6f98bb02626a4", func := "loop.example/g00678/laws.FnExactRumorPick", spec := "fnExactRumorPick", inPlace := ["slices.overlaps[loop.example/g00678/impl.Fact]"], unfollowed := true, recurses := true, apart := false, narrowed := true }
def FnExactRumorPickUptoSaid : Prop := fnExactRumorPickUptoRow.holds Try.pinned (OpenSpec.upto fnExactRumorPickSpec)

end Rows
end Go.Proofs.Ythgofcgkmdbcdaa
