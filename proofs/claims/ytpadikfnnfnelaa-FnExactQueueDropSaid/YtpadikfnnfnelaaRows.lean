/-
  No cell of these rows narrows 'for every input' (looked for: loops, veiled, ifaces, maps, wideKeys, modest, calm, conditions, laid).
  DERIVED. THE GIVEN ROWS OF THIS SEAT. 9 by the template 'for every input the law returns true; each argument reads behind the call as it read before'; 0 by the template 'total and deterministic' (their statements: YtpadikfnnfnelaaTotals.lean).
  GIVEN WITH THE SEED: the statements are not yours to turn. If you find one false, say at which input.
  Laid BY PROGRAM, IN A SANDBOX (cutbox-rows.mjs): the forced cells as the released guide's own fill.sh prints them over the translation bde4a453ad5fe63b… (all of the seat's roots in one cut). By AI agents, Wed Nov 11 2026. No macro, syntax, notation, axiom, sorry.
-/
import Derived.Test.YtpadikfnnfnelaaChecked
import GoSem.Claim
import GoSem.ClaimJoined
import GoSem.ClaimMapViews
import Derived.JoinedTies
import Derived.KernelRfl
namespace Go.Proofs.Ytpadikfnnfnelaa
/- THE CELL 'sum', in the pinned program and in every row, IS THE sha256 OF THE DUMP (.gsa) THAT YtpadikfnnfnelaaProg.lean LOADS. Nothing in Lean hashes anything: it is a label: what it is worth is what the hold of that sum in a sandbox is worth. -/
noncomputable def Try.pinned : Pinned := { name := "ytpadikfnnfnelaa", sum := "bde4a453ad5fe63b0a25fbbc75793c147af21786cf98fd060a66751097ead4ae", checked := Try.checked }
namespace Rows
def none {H : Type} : Left H := { results := [], args := [] }

/-- 'laws.FnExactTurnRight': WHATEVER THE INPUT: true; the input reads as it did. -/
def fnExactTurnRightSpec : ChangeSpec := { name := "fnExactTurnRight", fn := fun _ => fun
  | [d] => { results := [.lit (.bool true)], args := [d] }
  | _ => none }
def fnExactTurnRightRow : OpenClaim := { program := "ytpadikfnnfnelaa", sum := "bde4a453ad5fe63b0a25fbbc75793c147af21786cf98fd060a66751097ead4ae", func := "loop.example/g00678/laws.FnExactTurnRight", spec := "fnExactTurnRight", apart := false }
def FnExactTurnRightSaid : Prop := fnExactTurnRightRow.holds Try.pinned (OpenSpec.ofChange fnExactTurnRightSpec)

/-- ITS FALSE NEIGHBOUR: 'it returns false'. Refute it at one input. -/
def fnExactTurnRightWrong : ChangeSpec := { name := "fnExactTurnRight", fn := fun _ => fun
  | [d] => { results := [.lit (.bool false)], args := [d] }
  | _ => none }
def FnExactTurnRightWrongFalsely : Prop := fnExactTurnRightRow.holds Try.pinned (OpenSpec.ofChange fnExactTurnRightWrong)

/-- 'laws.FnExactTurnNext': WHATEVER THE INPUT: true; the input reads as it did. -/
def fnExactTurnNextSpec : ChangeSpec := { name := "fnExactTurnNext", fn := fun _ => fun
  | [d1, d2, d3] => { results := [.lit (.bool true)], args := [d1, d2, d3] }
  | _ => none }
def fnExactTurnNextRow : OpenClaim := { program := "ytpadikfnnfnelaa", sum := "bde4a453ad5fe63b0a25fbbc75793c147af21786cf98fd060a66751097ead4ae", func := "loop.example/g00678/laws.FnExactTurnNext", spec := "fnExactTurnNext", unfollowed := true, recurses := true, apart := false }
def FnExactTurnNextSaid : Prop := fnExactTurnNextRow.holds Try.pinned (OpenSpec.ofChange fnExactTurnNextSpec)

/-- ITS FALSE NEIGHBOUR: 'it returns false'. Refute it at one input. -/
def fnExactTurnNextWrong : ChangeSpec := { name := "fnExactTurnNext", fn := fun _ => fun
  | [d1, d2, d3] => { results := [.lit (.bool false)], args := [d1, d2, d3] }
  | _ => none }
def FnExactTurnNextWrongFalsely : Prop := fnExactTurnNextRow.holds Try.pinned (OpenSpec.ofChange fnExactTurnNextWrong)

/-- 'laws.FnExactSome': WHATEVER THE INPUT: true; the input reads as it did. -/
def fnExactSomeSpec : ChangeSpec := { name := "fnExactSome", fn := fun _ => fun
  | [d1, d2, d3] => { results := [.lit (.bool true)], args := [d1, d2, d3] }
  | _ => none }
def fnExactSomeRow : OpenClaim := { program := "ytpadikfnnfnelaa", sum := "bde4a453ad5fe63b0a25fbbc75793c147af21786cf98fd060a66751097ead4ae", func := "loop.example/g00678/laws.FnExactSome", spec := "fnExactSome", unfollowed := true, recurses := true, apart := false }
def FnExactSomeSaid : Prop := fnExactSomeRow.holds Try.pinned (OpenSpec.ofChange fnExactSomeSpec)

/-- ITS FALSE NEIGHBOUR: 'it returns false'. Refute it at one input. -/
def fnExactSomeWrong : ChangeSpec := { name := "fnExactSome", fn := fun _ => fun
  | [d1, d2, d3] => { results := [.lit (.bool false)], args := [d1, d2, d3] }
  | _ => none }
def FnExactSomeWrongFalsely : Prop := fnExactSomeRow.holds Try.pinned (OpenSpec.ofChange fnExactSomeWrong)

/-- 'laws.FnTurn': WHATEVER THE INPUT: true; the input reads as it did. -/
def fnTurnSpec : ChangeSpec := { name := "fnTurn", fn := fun _ => fun
  | [d1, d2] => { results := [.lit (.bool true)], args := [d1, d2] }
  | _ => none }
def fnTurnRow : OpenClaim := { program := "ytpadikfnnfnelaa", sum := "bde4a453ad5fe63b0a25fbbc75793c147af21786cf98fd060a66751097ead4ae", func := "loop.example/g00678/laws.FnTurn", spec := "fnTurn", unfollowed := true, recurses := true, apart := false }
def FnTurnSaid : Prop := fnTurnRow.holds Try.pinned (OpenSpec.ofChange fnTurnSpec)

/-- ITS FALSE NEIGHBOUR: 'it returns false'. Refute it at one input. -/
def fnTurnWrong : ChangeSpec := { name := "fnTurn", fn := fun _ => fun
  | [d1, d2] => { results := [.lit (.bool false)], args := [d1, d2] }
  | _ => none }
def FnTurnWrongFalsely : Prop := fnTurnRow.holds Try.pinned (OpenSpec.ofChange fnTurnWrong)

/-- 'laws.FnExactQueueRight': WHATEVER THE INPUT: true; the input reads as it did. -/
def fnExactQueueRightSpec : ChangeSpec := { name := "fnExactQueueRight", fn := fun _ => fun
  | [d] => { results := [.lit (.bool true)], args := [d] }
  | _ => none }
def fnExactQueueRightRow : OpenClaim := { program := "ytpadikfnnfnelaa", sum := "bde4a453ad5fe63b0a25fbbc75793c147af21786cf98fd060a66751097ead4ae", func := "loop.example/g00678/laws.FnExactQueueRight", spec := "fnExactQueueRight", apart := false }
def FnExactQueueRightSaid : Prop := fnExactQueueRightRow.holds Try.pinned (OpenSpec.ofChange fnExactQueueRightSpec)

/-- ITS FALSE NEIGHBOUR: 'it returns false'. Refute it at one input. -/
def fnExactQueueRightWrong : ChangeSpec := { name := "fnExactQueueRight", fn := fun _ => fun
  | [d] => { results := [.lit (.bool false)], args := [d] }
  | _ => none }
def FnExactQueueRightWrongFalsely : Prop := fnExactQueueRightRow.holds Try.pinned (OpenSpec.ofChange fnExactQueueRightWrong)

/-- 'laws.FnExactQueueTake': WHATEVER THE INPUT: true; the input reads as it did. -/
def fnExactQueueTakeSpec : ChangeSpec := { name := "fnExactQueueTake", fn := fun _ => fun
  | [d] => { results := [.lit (.bool true)], args := [d] }
  | _ => none }
def fnExactQueueTakeRow : OpenClaim := { program := "ytpadikfnnfnelaa", sum := "bde4a453ad5fe63b0a25fbbc75793c147af21786cf98fd060a66751097ead4ae", func := "loop.example/g00678/laws.FnExactQueueTake", spec := "fnExactQueueTake", apart := false }
def FnExactQueueTakeSaid : Prop := fnExactQueueTakeRow.holds Try.pinned (OpenSpec.ofChange fnExactQueueTakeSpec)

/-- ITS FALSE NEIGHBOUR: 'it returns false'. Refute it at one input. -/
def fnExactQueueTakeWrong : ChangeSpec := { name := "fnExactQueueTake", fn := fun _ => fun
  | [d] => { results := [.lit (.bool false)], args := [d] }
  | _ => none }
def FnExactQueueTakeWrongFalsely : Prop := fnExactQueueTakeRow.holds Try.pinned (OpenSpec.ofChange fnExactQueueTakeWrong)

/-- 'laws.FnExactQueueDrop': WHATEVER THE INPUT: true; the input reads as it did. -/
def fnExactQueueDropSpec : ChangeSpec := { name := "fnExactQueueDrop", fn := fun _ => fun
  | [d1, d2] => { results := [.lit (.bool true)], args := [d1, d2] }
  | _ => none }
def fnExactQueueDropRow : OpenClaim := { program := "ytpadikfnnfnelaa", sum := "bde4a453ad5fe63b0a25fbbc75793c147af21786cf98fd060a66751097ead4ae", func := "loop.example/g00678/laws.FnExactQueueDrop", spec := "fnExactQueueDrop", unfollowed := true, recurses := true, apart := false }
def FnExactQueueDropSaid : Prop := fnExactQueueDropRow.holds Try.pinned (OpenSpec.ofChange fnExactQueueDropSpec)

/-- ITS FALSE NEIGHBOUR: 'it returns false'. Refute it at one input. -/
def fnExactQueueDropWrong : ChangeSpec := { name := "fnExactQueueDrop", fn := fun _ => fun
  | [d1, d2] => { results := [.lit (.bool false)], args := [d1, d2] }
  | _ => none }
def FnExactQueueDropWrongFalsely : Prop := fnExactQueueDropRow.holds Try.pinned (OpenSpec.ofChange fnExactQueueDropWrong)

/-- 'laws.FnExactQueuePut': WHATEVER THE INPUT: true; the input reads as it did. -/
def fnExactQueuePutSpec : ChangeSpec := { name := "fnExactQueuePut", fn := fun _ => fun
  | [d1, d2] => { results := [.lit (.bool true)], args := [d1, d2] }
  | _ => none }
def fnExactQueuePutRow : OpenClaim := { program := "ytpadikfnnfnelaa", sum := "bde4a453ad5fe63b0a25fbbc75793c147af21786cf98fd060a66751097ead4ae", func := "loop.example/g00678/laws.FnExactQueuePut", spec := "fnExactQueuePut", inPlace := ["slices.overlaps[loop.example/g00678/impl.Due]"], unfollowed := true, recurses := true, apart := false }
def FnExactQueuePutSaid : Prop := fnExactQueuePutRow.holds Try.pinned (OpenSpec.ofChange fnExactQueuePutSpec)

/-- ITS FALSE NEIGHBOUR: 'it returns false'. Refute it at one input. -/
def fnExactQueuePutWrong : ChangeSpec := { name := "fnExactQueuePut", fn := fun _ => fun
  | [d1, d2] => { results := [.lit (.bool false)], args := [d1, d2] }
  | _ => none }
def FnExactQueuePutWrongFalsely : Prop := fnExactQueuePutRow.holds Try.pinned (OpenSpec.ofChange fnExactQueuePutWrong)

/-- 'laws.FnQueue': WHATEVER THE INPUT: true; the input reads as it did. -/
def fnQueueSpec : ChangeSpec := { name := "fnQueue", fn := fun _ => fun
  | [d1, d2] => { results := [.lit (.bool true)], args := [d1, d2] }
  | _ => none }
def fnQueueRow : OpenClaim := { program := "ytpadikfnnfnelaa", sum := "bde4a453ad5fe63b0a25fbbc75793c147af21786cf98fd060a66751097ead4ae", func := "loop.example/g00678/laws.FnQueue", spec := "fnQueue", inPlace := ["slices.overlaps[loop.example/g00678/impl.Due]"], unfollowed := true, recurses := true, apart := false }
def FnQueueSaid : Prop := fnQueueRow.holds Try.pinned (OpenSpec.ofChange fnQueueSpec)

/-- ITS FALSE NEIGHBOUR: 'it returns false'. Refute it at one input. -/
def fnQueueWrong : ChangeSpec := { name := "fnQueue", fn := fun _ => fun
  | [d1, d2] => { results := [.lit (.bool false)], args := [d1, d2] }
  | _ => none }
def FnQueueWrongFalsely : Prop := fnQueueRow.holds Try.pinned (OpenSpec.ofChange fnQueueWrong)

/- THE SECOND FORM. 'bulk': how many values and letters a reading holds, each counted each time it is reached (what is shared counts as often as it is met; a slice's spare places count too). A statement '..UptoSaid' is the law's where the arguments, and the package variables that the reading takes, are together of bulk at most 1048576: NARROWER than '..Said'. Prove '..Said' where nothing that the law and all that it calls make is longer than what came in: it says more and counts as full. Else prove '..UptoSaid'. A law counts once. -/
mutual
def uptoBulk {H : Type} : DataW H → Nat
  | .lit (.string bytes) => bytes.length + 1
  | .lit _ => 1
  | .nil => 1
  | .ptr d => uptoBulk d + 1
  | .slice elems spare => uptoBulkAll elems + uptoBulkAll spare + 1
  | .agg parts => uptoBulkAll parts + 1
  | .iface _ d => uptoBulk d + 1
  | .map entries => uptoBulkEntries entries + 1
  | .held _ => 1
def uptoBulkAll {H : Type} : List (DataW H) → Nat
  | [] => 0
  | d :: r => uptoBulk d + uptoBulkAll r
def uptoBulkEntries {H : Type} : List (Lit × DataW H) → Nat
  | [] => 0
  | x :: r => uptoBulkEntry x + uptoBulkEntries r
def uptoBulkEntry {H : Type} : Lit × DataW H → Nat
  | (.string bytes, d) => bytes.length + uptoBulk d + 1
  | (_, d) => uptoBulk d + 1
 end
def uptoSmall : (H : Type) → List (DataW H) → Bool := fun _ ds => decide (uptoBulkAll ds ≤ 1048576)
def OpenSpec.upto (s : _root_.Go.ChangeSpec) : _root_.Go.OpenSpec := { _root_.Go.OpenSpec.ofChange s with cond := some uptoSmall }

/-- 'laws.FnExactTurnRight', WHERE WHAT IT READS IS OF BULK AT MOST 1048576: true; the input reads as it did. -/
def fnExactTurnRightUptoRow : OpenClaim := { program := "ytpadikfnnfnelaa", sum := "bde4a453ad5fe63b0a25fbbc75793c147af21786cf98fd060a66751097ead4ae", func := "loop.example/g00678/laws.FnExactTurnRight", spec := "fnExactTurnRight", apart := false, narrowed := true }
def FnExactTurnRightUptoSaid : Prop := fnExactTurnRightUptoRow.holds Try.pinned (OpenSpec.upto fnExactTurnRightSpec)

/-- 'laws.FnExactTurnNext', WHERE WHAT IT READS IS OF BULK AT MOST 1048576: true; the input reads as it did. -/
def fnExactTurnNextUptoRow : OpenClaim := { program := "ytpadikfnnfnelaa", sum := "bde4a453ad5fe63b0a25fbbc75793c147af21786cf98fd060a66751097ead4ae", func := "loop.example/g00678/laws.FnExactTurnNext", spec := "fnExactTurnNext", unfollowed := true, recurses := true, apart := false, narrowed := true }
def FnExactTurnNextUptoSaid : Prop := fnExactTurnNextUptoRow.holds Try.pinned (OpenSpec.upto fnExactTurnNextSpec)

/-- 'laws.FnExactSome', WHERE WHAT IT READS IS OF BULK AT MOST 1048576: true; the input reads as it did. -/
def fnExactSomeUptoRow : OpenClaim := { program := "ytpadikfnnfnelaa", sum := "bde4a453ad5fe63b0a25fbbc75793c147af21786cf98fd060a66751097ead4ae", func := "loop.example/g00678/laws.FnExactSome", spec := "fnExactSome", unfollowed := true, recurses := true, apart := false, narrowed := true }
def FnExactSomeUptoSaid : Prop := fnExactSomeUptoRow.holds Try.pinned (OpenSpec.upto fnExactSomeSpec)

/-- 'laws.FnTurn', WHERE WHAT IT READS IS OF BULK AT MOST 1048576: true; the input reads as it did. -/
def fnTurnUptoRow : OpenClaim := { program := "ytpadikfnnfnelaa", sum := "bde4a453ad5fe63b0a25fbbc75793c147af21786cf98fd060a66751097ead4ae", func := "loop.example/g00678/laws.FnTurn", spec := "fnTurn", unfollowed := true, recurses := true, apart := false, narrowed := true }
def FnTurnUptoSaid : Prop := fnTurnUptoRow.holds Try.pinned (OpenSpec.upto fnTurnSpec)

/-- 'laws.FnExactQueueRight', WHERE WHAT IT READS IS OF BULK AT MOST 1048576: true; the input reads as it did. -/
def fnExactQueueRightUptoRow : OpenClaim := { program := "ytpadikfnnfnelaa", sum := "bde4a453ad5fe63b0a25fbbc75793c147af21786cf98fd060a66751097ead4ae", func := "loop.example/g00678/laws.FnExactQueueRight", spec := "fnExactQueueRight", apart := false, narrowed := true }
def FnExactQueueRightUptoSaid : Prop := fnExactQueueRightUptoRow.holds Try.pinned (OpenSpec.upto fnExactQueueRightSpec)

/-- 'laws.FnExactQueueTake', WHERE WHAT IT READS IS OF BULK AT MOST 1048576: true; the input reads as it did. -/
def fnExactQueueTakeUptoRow : OpenClaim := { program := "ytpadikfnnfnelaa", sum := "bde4a453ad5fe63b0a25fbbc75793c147af21786cf98fd060a66751097ead4ae", func := "loop.example/g00678/laws.FnExactQueueTake", spec := "fnExactQueueTake", apart := false, narrowed := true }
def FnExactQueueTakeUptoSaid : Prop := fnExactQueueTakeUptoRow.holds Try.pinned (OpenSpec.upto fnExactQueueTakeSpec)

/-- 'laws.FnExactQueueDrop', WHERE WHAT IT READS IS OF BULK AT MOST 1048576: true; the input reads as it did. -/
def fnExactQueueDropUptoRow : OpenClaim := { program := "ytpadikfnnfnelaa", sum := "bde4a453ad5fe63b0a25fbbc75793c147af21786cf98fd060a66751097ead4ae", func := "loop.example/g00678/laws.FnExactQueueDrop", spec := "fnExactQueueDrop", unfollowed := true, recurses := true, apart := false, narrowed := true }
def FnExactQueueDropUptoSaid : Prop := fnExactQueueDropUptoRow.holds Try.pinned (OpenSpec.upto fnExactQueueDropSpec)

/-- 'laws.FnExactQueuePut', WHERE WHAT IT READS IS OF BULK AT MOST 1048576: true; the input reads as it did. -/
def fnExactQueuePutUptoRow : OpenClaim := { program := "ytpadikfnnfnelaa", sum := "bde4a453ad5fe63b0a25fbbc75793c147af21786cf98fd060a66751097ead4ae", func := "loop.example/g00678/laws.FnExactQueuePut", spec := "fnExactQueuePut", inPlace := ["slices.overlaps[loop.example/g00678/impl.Due]"], unfollowed := true, recurses := true, apart := false, narrowed := true }
def FnExactQueuePutUptoSaid : Prop := fnExactQueuePutUptoRow.holds Try.pinned (OpenSpec.upto fnExactQueuePutSpec)

/-- 'laws.FnQueue', WHERE WHAT IT READS IS OF BULK AT MOST 1048576: true; the input reads as it did. -/
def fnQueueUptoRow : OpenClaim := { program := "ytpadikfnnfnelaa", sum := "bde4a453ad5fe63b0a25fbbc75793c147af21786cf98fd060a66751097ead4ae", func := "loop.example/g00678/laws.FnQueue", spec := "fnQueue", inPlace := ["slices.overlaps[loop.example/g00678/impl.Due]"], unfollowed := true, recurses := true, apart := false, narrowed := true }
def FnQueueUptoSaid : Prop := fnQueueUptoRow.holds Try.pinned (OpenSpec.upto fnQueueSpec)

end Rows
end Go.Proofs.Ytpadikfnnfnelaa
