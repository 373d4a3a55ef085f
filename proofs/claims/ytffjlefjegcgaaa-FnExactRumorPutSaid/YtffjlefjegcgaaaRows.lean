/-
  No cell of these rows narrows 'for every input' (looked for: loops, veiled, ifaces, maps, wideKeys, modest, calm, conditions, laid).
  DERIVED. THE GIVEN ROWS OF THIS SEAT. 10 by the template 'for every input the law returns true; each argument reads behind the call as it read before'; 0 by the template 'total and deterministic' (their statements: YtffjlefjegcgaaaTotals.lean).
  GIVEN WITH THE SEED: the statements are not yours to turn. If you find one false, say at which input.
  Laid BY PROGRAM, IN A SANDBOX (cutbox-rows.mjs): the forced cells as the released guide's own fill.sh prints them over the translation d6b22f1daebde6b6… (all of the seat's roots in one cut). By AI agents, Wed Nov 11 2026. No macro, syntax, notation, axiom, sorry.
-/
import Derived.Test.YtffjlefjegcgaaaChecked
import GoSem.Claim
import GoSem.ClaimJoined
import GoSem.ClaimMapViews
import Derived.JoinedTies
import Derived.KernelRfl
namespace Go.Proofs.Ytffjlefjegcgaaa
/- THE CELL 'sum', in the pinned program and in every row, IS THE sha256 OF THE DUMP (.gsa) THAT YtffjlefjegcgaaaProg.lean LOADS. Nothing in Lean hashes anything: it is a label: what it is worth is what the hold of that sum in a sandbox is worth. -/
noncomputable def Try.pinned : Pinned := { name := "ytffjlefjegcgaaa", sum := "d6b22f1daebde6b6df6573170b51347fcc31e7e1f528f3ec5382a0a65d5e983d", checked := Try.checked }
namespace Rows
def none {H : Type} : Left H := { results := [], args := [] }

/-- 'laws.FnExactViewRight': WHATEVER THE INPUT: true; the input reads as it did. -/
def fnExactViewRightSpec : ChangeSpec := { name := "fnExactViewRight", fn := fun _ => fun
  | [d] => { results := [.lit (.bool true)], args := [d] }
  | _ => none }
def fnExactViewRightRow : OpenClaim := { program := "ytffjlefjegcgaaa", sum := "d6b22f1daebde6b6df6573170b51347fcc31e7e1f528f3ec5382a0a65d5e983d", func := "loop.example/g00678/laws.FnExactViewRight", spec := "fnExactViewRight", apart := false }
def FnExactViewRightSaid : Prop := fnExactViewRightRow.holds Try.pinned (OpenSpec.ofChange fnExactViewRightSpec)

/-- ITS FALSE NEIGHBOUR: 'it returns false'. Refute it at one input. -/
def fnExactViewRightWrong : ChangeSpec := { name := "fnExactViewRight", fn := fun _ => fun
  | [d] => { results := [.lit (.bool false)], args := [d] }
  | _ => none }
def FnExactViewRightWrongFalsely : Prop := fnExactViewRightRow.holds Try.pinned (OpenSpec.ofChange fnExactViewRightWrong)

/-- 'laws.FnExactViewAt': WHATEVER THE INPUT: true; the input reads as it did. -/
def fnExactViewAtSpec : ChangeSpec := { name := "fnExactViewAt", fn := fun _ => fun
  | [d1, d2] => { results := [.lit (.bool true)], args := [d1, d2] }
  | _ => none }
def fnExactViewAtRow : OpenClaim := { program := "ytffjlefjegcgaaa", sum := "d6b22f1daebde6b6df6573170b51347fcc31e7e1f528f3ec5382a0a65d5e983d", func := "loop.example/g00678/laws.FnExactViewAt", spec := "fnExactViewAt", apart := false }
def FnExactViewAtSaid : Prop := fnExactViewAtRow.holds Try.pinned (OpenSpec.ofChange fnExactViewAtSpec)

/-- ITS FALSE NEIGHBOUR: 'it returns false'. Refute it at one input. -/
def fnExactViewAtWrong : ChangeSpec := { name := "fnExactViewAt", fn := fun _ => fun
  | [d1, d2] => { results := [.lit (.bool false)], args := [d1, d2] }
  | _ => none }
def FnExactViewAtWrongFalsely : Prop := fnExactViewAtRow.holds Try.pinned (OpenSpec.ofChange fnExactViewAtWrong)

/-- 'laws.FnExactNotGone': WHATEVER THE INPUT: true; the input reads as it did. -/
def fnExactNotGoneSpec : ChangeSpec := { name := "fnExactNotGone", fn := fun _ => fun
  | [d] => { results := [.lit (.bool true)], args := [d] }
  | _ => none }
def fnExactNotGoneRow : OpenClaim := { program := "ytffjlefjegcgaaa", sum := "d6b22f1daebde6b6df6573170b51347fcc31e7e1f528f3ec5382a0a65d5e983d", func := "loop.example/g00678/laws.FnExactNotGone", spec := "fnExactNotGone", apart := false }
def FnExactNotGoneSaid : Prop := fnExactNotGoneRow.holds Try.pinned (OpenSpec.ofChange fnExactNotGoneSpec)

/-- ITS FALSE NEIGHBOUR: 'it returns false'. Refute it at one input. -/
def fnExactNotGoneWrong : ChangeSpec := { name := "fnExactNotGone", fn := fun _ => fun
  | [d] => { results := [.lit (.bool false)], args := [d] }
  | _ => none }
def FnExactNotGoneWrongFalsely : Prop := fnExactNotGoneRow.holds Try.pinned (OpenSpec.ofChange fnExactNotGoneWrong)

/-- 'laws.FnExactViewPut': WHATEVER THE INPUT: true; the input reads as it did. -/
def fnExactViewPutSpec : ChangeSpec := { name := "fnExactViewPut", fn := fun _ => fun
  | [d1, d2] => { results := [.lit (.bool true)], args := [d1, d2] }
  | _ => none }
def fnExactViewPutRow : OpenClaim := { program := "ytffjlefjegcgaaa", sum := "d6b22f1daebde6b6df6573170b51347fcc31e7e1f528f3ec5382a0a65d5e983d", func := "loop.example/g00678/laws.FnExactViewPut", spec := "fnExactViewPut", inPlace := ["slices.overlaps[loop.example/g00678/impl.Fact]"], unfollowed := true, recurses := true, apart := false }
def FnExactViewPutSaid : Prop := fnExactViewPutRow.holds Try.pinned (OpenSpec.ofChange fnExactViewPutSpec)

/-- ITS FALSE NEIGHBOUR: 'it returns false'. Refute it at one input. -/
def fnExactViewPutWrong : ChangeSpec := { name := "fnExactViewPut", fn := fun _ => fun
  | [d1, d2] => { results := [.lit (.bool false)], args := [d1, d2] }
  | _ => none }
def FnExactViewPutWrongFalsely : Prop := fnExactViewPutRow.holds Try.pinned (OpenSpec.ofChange fnExactViewPutWrong)

/-- 'laws.FnExactViewJoin': WHATEVER THE INPUT: true; the input reads as it did. -/
def fnExactViewJoinSpec : ChangeSpec := { name := "fnExactViewJoin", fn := fun _ => fun
  | [d1, d2] => { results := [.lit (.bool true)], args := [d1, d2] }
  | _ => none }
def fnExactViewJoinRow : OpenClaim := { program := "ytffjlefjegcgaaa", sum := "d6b22f1daebde6b6df6573170b51347fcc31e7e1f528f3ec5382a0a65d5e983d", func := "loop.example/g00678/laws.FnExactViewJoin", spec := "fnExactViewJoin", inPlace := ["slices.overlaps[loop.example/g00678/impl.Fact]"], unfollowed := true, recurses := true, apart := false }
def FnExactViewJoinSaid : Prop := fnExactViewJoinRow.holds Try.pinned (OpenSpec.ofChange fnExactViewJoinSpec)

/-- ITS FALSE NEIGHBOUR: 'it returns false'. Refute it at one input. -/
def fnExactViewJoinWrong : ChangeSpec := { name := "fnExactViewJoin", fn := fun _ => fun
  | [d1, d2] => { results := [.lit (.bool false)], args := [d1, d2] }
  | _ => none }
def FnExactViewJoinWrongFalsely : Prop := fnExactViewJoinRow.holds Try.pinned (OpenSpec.ofChange fnExactViewJoinWrong)

/-- 'laws.FnJoin': WHATEVER THE INPUT: true; the input reads as it did. -/
def fnJoinSpec : ChangeSpec := { name := "fnJoin", fn := fun _ => fun
  | [d1, d2] => { results := [.lit (.bool true)], args := [d1, d2] }
  | _ => none }
def fnJoinRow : OpenClaim := { program := "ytffjlefjegcgaaa", sum := "d6b22f1daebde6b6df6573170b51347fcc31e7e1f528f3ec5382a0a65d5e983d", func := "loop.example/g00678/laws.FnJoin", spec := "fnJoin", inPlace := ["slices.overlaps[loop.example/g00678/impl.Fact]"], unfollowed := true, recurses := true, apart := false }
def FnJoinSaid : Prop := fnJoinRow.holds Try.pinned (OpenSpec.ofChange fnJoinSpec)

/-- ITS FALSE NEIGHBOUR: 'it returns false'. Refute it at one input. -/
def fnJoinWrong : ChangeSpec := { name := "fnJoin", fn := fun _ => fun
  | [d1, d2] => { results := [.lit (.bool false)], args := [d1, d2] }
  | _ => none }
def FnJoinWrongFalsely : Prop := fnJoinRow.holds Try.pinned (OpenSpec.ofChange fnJoinWrong)

/-- 'laws.FnExactRumorsRight': WHATEVER THE INPUT: true; the input reads as it did. -/
def fnExactRumorsRightSpec : ChangeSpec := { name := "fnExactRumorsRight", fn := fun _ => fun
  | [d] => { results := [.lit (.bool true)], args := [d] }
  | _ => none }
def fnExactRumorsRightRow : OpenClaim := { program := "ytffjlefjegcgaaa", sum := "d6b22f1daebde6b6df6573170b51347fcc31e7e1f528f3ec5382a0a65d5e983d", func := "loop.example/g00678/laws.FnExactRumorsRight", spec := "fnExactRumorsRight", apart := false }
def FnExactRumorsRightSaid : Prop := fnExactRumorsRightRow.holds Try.pinned (OpenSpec.ofChange fnExactRumorsRightSpec)

/-- ITS FALSE NEIGHBOUR: 'it returns false'. Refute it at one input. -/
def fnExactRumorsRightWrong : ChangeSpec := { name := "fnExactRumorsRight", fn := fun _ => fun
  | [d] => { results := [.lit (.bool false)], args := [d] }
  | _ => none }
def FnExactRumorsRightWrongFalsely : Prop := fnExactRumorsRightRow.holds Try.pinned (OpenSpec.ofChange fnExactRumorsRightWrong)

/-- 'laws.FnExactRumorPut': WHATEVER THE INPUT: true; the input reads as it did. -/
def fnExactRumorPutSpec : ChangeSpec := { name := "fnExactRumorPut", fn := fun _ => fun
  | [d1, d2] => { results := [.lit (.bool true)], args := [d1, d2] }
  | _ => none }
def fnExactRumorPutRow : OpenClaim := { program := "ytffjlefjegcgaaa", sum := "d6b22f1daebde6b6df6573170b51347fcc31e7e1f528f3ec5382a0a65d5e983d", func := "loop.example/g00678/laws.FnExactRumorPut", spec := "fnExactRumorPut", unfollowed := true, recurses := true, apart := false }
def FnExactRumorPutSaid : Prop := fnExactRumorPutRow.holds Try.pinned (OpenSpec.ofChange fnExactRumorPutSpec)

/-- ITS FALSE NEIGHBOUR: 'it returns false'. Refute it at one input. -/
def fnExactRumorPutWrong : ChangeSpec := { name := "fnExactRumorPut", fn := fun _ => fun
  | [d1, d2] => { results := [.lit (.bool false)], args := [d1, d2] }
  | _ => none }
def FnExactRumorPutWrongFalsely : Prop := fnExactRumorPutRow.holds Try.pinned (OpenSpec.ofChange fnExactRumorPutWrong)

/-- 'laws.FnExactRumorPick': WHATEVER THE INPUT: true; the input reads as it did. -/
def fnExactRumorPickSpec : ChangeSpec := { name := "fnExactRumorPick", fn := fun _ => fun
  | [d1, d2] => { results := [.lit (.bool true)], args := [d1, d2] }
  | _ => none }
def fnExactRumorPickRow : OpenClaim := { program := "ytffjlefjegcgaaa", sum := "d6b22f1daebde6b6df6573170b51347fcc31e7e1f528f3ec5382a0a65d5e983d", func := "loop.example/g00678/laws.FnExactRumorPick", spec := "fnExactRumorPick", inPlace := ["slices.overlaps[loop.example/g00678/impl.Fact]"], unfollowed := true, recurses := true, apart := false }
def FnExactRumorPickSaid : Prop := fnExactRumorPickRow.holds Try.pinned (OpenSpec.ofChange fnExactRumorPickSpec)

/-- ITS FALSE NEIGHBOUR: 'it returns false'. Refute it at one input. -/
def fnExactRumorPickWrong : ChangeSpec := { name := "fnExactRumorPick", fn := fun _ => fun
  | [d1, d2] => { results := [.lit (.bool false)], args := [d1, d2] }
  | _ => none }
def FnExactRumorPickWrongFalsely : Prop := fnExactRumorPickRow.holds Try.pinned (OpenSpec.ofChange fnExactRumorPickWrong)

/-- 'laws.FnRumors': WHATEVER THE INPUT: true; the input reads as it did. -/
def fnRumorsSpec : ChangeSpec := { name := "fnRumors", fn := fun _ => fun
  | [d1, d2] => { results := [.lit (.bool true)], args := [d1, d2] }
  | _ => none }
def fnRumorsRow : OpenClaim := { program := "ytffjlefjegcgaaa", sum := "d6b22f1daebde6b6df6573170b51347fcc31e7e1f528f3ec5382a0a65d5e983d", func := "loop.example/g00678/laws.FnRumors", spec := "fnRumors", inPlace := ["slices.overlaps[loop.example/g00678/impl.Fact]"], unfollowed := true, recurses := true, apart := false }
def FnRumorsSaid : Prop := fnRumorsRow.holds Try.pinned (OpenSpec.ofChange fnRumorsSpec)

/-- ITS FALSE NEIGHBOUR: 'it returns false'. Refute it at one input. -/
def fnRumorsWrong : ChangeSpec := { name := "fnRumors", fn := fun _ => fun
  | [d1, d2] => { results := [.lit (.bool false)], args := [d1, d2] }
  | _ => none }
def FnRumorsWrongFalsely : Prop := fnRumorsRow.holds Try.pinned (OpenSpec.ofChange fnRumorsWrong)

/- THE SECOND FORM. 'bulk': how many values and letters a reading holds, each counted each time it is reached (what is shared counts as often as it is met; a slice's spare places count too). A statement '..UptoSaid' is the law's where the arguments, and the package variables that the reading takes, are together of bulk at most 1048576: NARROWER than '..Said'. Prove '..Said' where nothing that the law and all that it calls make is longer than what came in: it says more and counts as full. Else prove '..UptoSaid'. A law counts once. -/
mutual
def uptoBulk {H : Type} : DataW H → Nat
  | .lit (.string bytes) => bytes.length + 1
  | .lit _ => 1
  | .nil => 1
  | .ptr d => uptoBulk d + 1
  | .slice elems spare => uptoBulkAll elems + uptoBulkAll spare + 1
  | .agg parts => uptoBulkAll parts + 1
  | .iface _ d => uptoBulk d + 1
  | .map entries => uptoBulkEntries entries + 1
  | .held _ => 1
def uptoBulkAll {H : Type} : List (DataW H) → Nat
  | [] => 0
  | d :: r => uptoBulk d + uptoBulkAll r
def uptoBulkEntries {H : Type} : List (Lit × DataW H) → Nat
  | [] => 0
  | x :: r => uptoBulkEntry x + uptoBulkEntries r
def uptoBulkEntry {H : Type} : Lit × DataW H → Nat
  | (.string bytes, d) => bytes.length + uptoBulk d + 1
  | (_, d) => uptoBulk d + 1
 end
def uptoSmall : (H : Type) → List (DataW H) → Bool := fun _ ds => decide (uptoBulkAll ds ≤ 1048576)
def OpenSpec.upto (s : _root_.Go.ChangeSpec) : _root_.Go.OpenSpec := { _root_.Go.OpenSpec.ofChange s with cond := some uptoSmall }

/-- 'laws.FnExactViewRight', WHERE WHAT IT READS IS OF BULK AT MOST 1048576: true; the input reads as it did. -/
def fnExactViewRightUptoRow : OpenClaim := { program := "ytffjlefjegcgaaa", sum := "d6b22f1daebde6b6df6573170b51347fcc31e7e1f528f3ec5382a0a65d5e983d", func := "loop.example/g00678/laws.FnExactViewRight", spec := "fnExactViewRight", apart := false, narrowed := true }
def FnExactViewRightUptoSaid : Prop := fnExactViewRightUptoRow.holds Try.pinned (OpenSpec.upto fnExactViewRightSpec)

/-- 'laws.FnExactViewAt', WHERE WHAT IT READS IS OF BULK AT MOST 1048576: true; the input reads as it did. -/
def fnExactViewAtUptoRow : OpenClaim := { program := "ytffjlefjegcgaaa", sum := "d6b22f1daebde6b6df6573170b51347fcc31e7e1f528f3ec5382a0a65d5e983d", func := "loop.example/g00678/laws.FnExactViewAt", spec := "fnExactViewAt", apart := false, narrowed := true }
def FnExactViewAtUptoSaid : Prop := fnExactViewAtUptoRow.holds Try.pinned (OpenSpec.upto fnExactViewAtSpec)

/-- 'laws.FnExactNotGone', WHERE WHAT IT READS IS OF BULK AT MOST 1048576: true; the input reads as it did. -/
def fnExactNotGoneUptoRow : OpenClaim := { program := "ytffjlefjegcgaaa", sum := "d6b22f1daebde6b6df6573170b51347fcc31e7e1f528f3ec5382a0a65d5e983d", func := "loop.example/g00678/laws.FnExactNotGone", spec := "fnExactNotGone", apart := false, narrowed := true }
def FnExactNotGoneUptoSaid : Prop := fnExactNotGoneUptoRow.holds Try.pinned (OpenSpec.upto fnExactNotGoneSpec)

/-- 'laws.FnExactViewPut', WHERE WHAT IT READS IS OF BULK AT MOST 1048576: true; the input reads as it did. -/
def fnExactViewPutUptoRow : OpenClaim := { program := "ytffjlefjegcgaaa", sum := "d6b22f1daebde6b6df6573170b51347fcc31e7e1f528f3ec5382a0a65d5e983d", func := "loop.example/g00678/laws.FnExactViewPut", spec := "fnExactViewPut", inPlace := ["slices.overlaps[loop.example/g00678/impl.Fact]"], unfollowed := true, recurses := true, apart := false, narrowed := true }
def FnExactViewPutUptoSaid : Prop := fnExactViewPutUptoRow.holds Try.pinned (OpenSpec.upto fnExactViewPutSpec)

/-- 'laws.FnExactViewJoin', WHERE WHAT IT READS IS OF BULK AT MOST 1048576: true; the input reads as it did. -/
def fnExactViewJoinUptoRow : OpenClaim := { program := "ytffjlefjegcgaaa", sum := "d6b22f1daebde6b6df6573170b51347fcc31e7e1f528f3ec5382a0a65d5e983d", func := "loop.example/g00678/laws.FnExactViewJoin", spec := "fnExactViewJoin", inPlace := ["slices.overlaps[loop.example/g00678/impl.Fact]"], unfollowed := true, recurses := true, apart := false, narrowed := true }
def FnExactViewJoinUptoSaid : Prop := fnExactViewJoinUptoRow.holds Try.pinned (OpenSpec.upto fnExactViewJoinSpec)

/-- 'laws.FnJoin', WHERE WHAT IT READS IS OF BULK AT MOST 1048576: true; the input reads as it did. -/
def fnJoinUptoRow : OpenClaim := { program := "ytffjlefjegcgaaa", sum := "d6b22f1daebde6b6df6573170b51347fcc31e7e1f528f3ec5382a0a65d5e983d", func := "loop.example/g00678/laws.FnJoin", spec := "fnJoin", inPlace := ["slices.overlaps[loop.example/g00678/impl.Fact]"], unfollowed := true, recurses := true, apart := false, narrowed := true }
def FnJoinUptoSaid : Prop := fnJoinUptoRow.holds Try.pinned (OpenSpec.upto fnJoinSpec)

/-- 'laws.FnExactRumorsRight', WHERE WHAT IT READS IS OF BULK AT MOST 1048576: true; the input reads as it did. -/
def fnExactRumorsRightUptoRow : OpenClaim := { program := "ytffjlefjegcgaaa", sum := "d6b22f1daebde6b6df6573170b51347fcc31e7e1f528f3ec5382a0a65d5e983d", func := "loop.example/g00678/laws.FnExactRumorsRight", spec := "fnExactRumorsRight", apart := false, narrowed := true }
def FnExactRumorsRightUptoSaid : Prop := fnExactRumorsRightUptoRow.holds Try.pinned (OpenSpec.upto fnExactRumorsRightSpec)

/-- 'laws.FnExactRumorPut', WHERE WHAT IT READS IS OF BULK AT MOST 1048576: true; the input reads as it did. -/
def fnExactRumorPutUptoRow : OpenClaim := { program := "ytffjlefjegcgaaa", sum := "d6b22f1daebde6b6df6573170b51347fcc31e7e1f528f3ec5382a0a65d5e983d", func := "loop.example/g00678/laws.FnExactRumorPut", spec := "fnExactRumorPut", unfollowed := true, recurses := true, apart := false, narrowed := true }
def FnExactRumorPutUptoSaid : Prop := fnExactRumorPutUptoRow.holds Try.pinned (OpenSpec.upto fnExactRumorPutSpec)

/-- 'laws.FnExactRumorPick', WHERE WHAT IT READS IS OF BULK AT MOST 1048576: true; the input reads as it did. -/
def fnExactRumorPickUptoRow : OpenClaim := { program := "ytffjlefjegcgaaa", sum := "d6b22f1daebde6b6df6573170b51347fcc31e7e1f528f3ec5382a0a65d5e983d", func := "loop.example/g00678/laws.FnExactRumorPick", spec := "fnExactRumorPick", inPlace := ["slices.overlaps[loop.example/g00678/impl.Fact]"], unfollowed := true, recurses := true, apart := false, narrowed := true }
def FnExactRumorPickUptoSaid : Prop := fnExactRumorPickUptoRow.holds Try.pinned (OpenSpec.upto fnExactRumorPickSpec)

/-- 'laws.FnRumors', WHERE WHAT IT READS IS OF BULK AT MOST 1048576: true; the input reads as it did. -/
def fnRumorsUptoRow : OpenClaim := { program := "ytffjlefjegcgaaa", sum := "d6b22f1daebde6b6df6573170b51347fcc31e7e1f528f3ec5382a0a65d5e983d", func := "loop.example/g00678/laws.FnRumors", spec := "fnRumors", inPlace := ["slices.overlaps[loop.example/g00678/impl.Fact]"], unfollowed := true, recurses := true, apart := false, narrowed := true }
def FnRumorsUptoSaid : Prop := fnRumorsUptoRow.holds Try.pinned (OpenSpec.upto fnRumorsSpec)

end Rows
end Go.Proofs.Ytffjlefjegcgaaa
