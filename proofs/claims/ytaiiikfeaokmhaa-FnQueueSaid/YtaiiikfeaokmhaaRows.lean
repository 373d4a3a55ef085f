/-
  No cell of these rows narrows 'for every input' (looked for: loops, veiled, ifaces, maps, wideKeys, modest, calm, conditions, laid).
  DERIVED. THE GIVEN ROWS OF THIS SEAT. 4 by the template 'for every input the law returns true; each argument reads behind the call as it read before'; 0 by the template 'total and deterministic' (their statements: YtaiiikfeaokmhaaTotals.lean).
  GIVEN WITH THE SEED: the statements are not yours to turn. If you find one false, say at which input.
  Laid BY PROGRAM, IN A SANDBOX (cutbox-rows.mjs): the forced cells as the released guide's own fill.sh prints them over the translation 5643bfb5f697b6f9… (all of the seat's roots in one cut). By AI agents, Wed Nov 11 2026. No macro, syntax, notation, axiom, sorry.
-/
import Derived.Test.YtaiiikfeaokmhaaChecked
import GoSem.Claim
import GoSem.ClaimJoined
import GoSem.ClaimMapViews
import Derived.JoinedTies
import Derived.KernelRfl
namespace Go.Proofs.Ytaiiikfeaokmhaa
/- THE CELL 'sum', in the pinned program and in every row, IS THE sha256 OF THE DUMP (.gsa) THAT YtaiiikfeaokmhaaProg.lean LOADS. Nothing in Lean hashes anything: it is a label: what it is worth is what the hold of that sum in a sandbox is worth. -/
noncomputable def Try.pinned : Pinned := { name := "ytaiiikfeaokmhaa", sum := "5643bfb5f697b6f9ca0d2049f2adaee8409d226fe4de0d92a5943d19a7a4f0a6", checked := Try.checked }
namespace Rows
def none {H : Type} : Left H := { results := [], args := [] }

/-- 'laws.FnQueue': WHATEVER THE INPUT: true; the input reads as it did. -/
def fnQueueSpec : ChangeSpec := { name := "fnQueue", fn := fun _ => fun
  | [d1, d2] => { results := [.lit (.bool true)], args := [d1, d2] }
  | _ => none }
def fnQueueRow : OpenClaim := { program := "ytaiiikfeaokmhaa", sum := "5643bfb5f697b6f9ca0d2049f2adaee8409d226fe4de0d92a5943d19a7a4f0a6", func := "loop.example/g00678/laws.FnQueue", spec := "fnQueue", inPlace := ["slices.overlaps[loop.example/g00678/impl.Due]"], unfollowed := true, recurses := true, apart := false }
def FnQueueSaid : Prop := fnQueueRow.holds Try.pinned (OpenSpec.ofChange fnQueueSpec)

/-- ITS FALSE NEIGHBOUR: 'it returns false'. Refute it at one input. -/
def fnQueueWrong : ChangeSpec := { name := "fnQueue", fn := fun _ => fun
  | [d1, d2] => { results := [.lit (.bool false)], args := [d1, d2] }
  | _ => none }
def FnQueueWrongFalsely : Prop := fnQueueRow.holds Try.pinned (OpenSpec.ofChange fnQueueWrong)

/-- 'laws.FnJoin': WHATEVER THE INPUT: true; the input reads as it did. -/
def fnJoinSpec : ChangeSpec := { name := "fnJoin", fn := fun _ => fun
  | [d1, d2] => { results := [.lit (.bool true)], args := [d1, d2] }
  | _ => none }
def fnJoinRow : OpenClaim := { program := "ytaiiikfeaokmhaa", sum := "5643bfb5f697b6f9ca0d2049f2adaee8409d226fe4de0d92a5943d19a7a4f0a6", func := "loop.example/g00678/laws.FnJoin", spec := "fnJoin", inPlace := ["slices.overlaps[loop.example/g00678/impl.Fact]"], unfollowed := true, recurses := true, apart := false }
def FnJoinSaid : Prop := fnJoinRow.holds Try.pinned (OpenSpec.ofChange fnJoinSpec)

/-- ITS FALSE NEIGHBOUR: 'it returns false'. Refute it at one input. -/
def fnJoinWrong : ChangeSpec := { name := "fnJoin", fn := fun _ => fun
  | [d1, d2] => { results := [.lit (.bool false)], args := [d1, d2] }
  | _ => none }
def FnJoinWrongFalsely : Prop := fnJoinRow.holds Try.pinned (OpenSpec.ofChange fnJoinWrong)

/-- 'laws.FnRumors': WHATEVER THE INPUT: true; the input reads as it did. -/
def fnRumorsSpec : ChangeSpec := { name := "fnRumors", fn := fun _ => fun
  | [d1, d2] => { results := [.lit (.bool true)], args := [d1, d2] }
  | _ => none }
def fnRumorsRow : OpenClaim := { program := "ytaiiikfeaokmhaa", sum := "5643bfb5f697b6f9ca0d2049f2adaee8409d226fe4de0d92a5943d19a7a4f0a6", func := "loop.example/g00678/laws.FnRumors", spec := "fnRumors", inPlace := ["slices.overlaps[loop.example/g00678/impl.Fact]"], unfollowed := true, recurses := true, apart := false }
def FnRumorsSaid : Prop := fnRumorsRow.holds Try.pinned (OpenSpec.ofChange fnRumorsSpec)

/-- ITS FALSE NEIGHBOUR: 'it returns false'. Refute it at one input. -/
def fnRumorsWrong : ChangeSpec := { name := "fnRumors", fn := fun _ => fun
  | [d1, d2] => { results := [.lit (.bool false)], args := [d1, d2] }
  | _ => none }
def FnRumorsWrongFalsely : Prop := fnRumorsRow.holds Try.pinned (OpenSpec.ofChange fnRumorsWrong)

/-- 'laws.FnMail': WHATEVER THE INPUT: true; the input reads as it did. -/
def fnMailSpec : ChangeSpec := { name := "fnMail", fn := fun _ => fun
  | [d1, d2] => { results := [.lit (.bool true)], args := [d1, d2] }
  | _ => none }
def fnMailRow : OpenClaim := { program := "ytaiiikfeaokmhaa", sum := "5643bfb5f697b6f9ca0d2049f2adaee8409d226fe4de0d92a5943d19a7a4f0a6", func := "loop.example/g00678/laws.FnMail", spec := "fnMail", unfollowed := true, recurses := true, apart := false }
def FnMailSaid : Prop := fnMailRow.holds Try.pinned (OpenSpec.ofChange fnMailSpec)

/-- ITS FALSE NEIGHBOUR: 'it returns false'. Refute it at one input. -/
def fnMailWrong : ChangeSpec := { name := "fnMail", fn := fun _ => fun
  | [d1, d2] => { results := [.lit (.bool false)], args := [d1, d2] }
  | _ => none }
def FnMailWrongFalsely : Prop := fnMailRow.holds Try.pinned (OpenSpec.ofChange fnMailWrong)

/- THE SECOND FORM. 'bulk': how many values and letters a reading holds, each counted each time it is reached (what is shared counts as often as it is met; a slice's spare places count too). A statement '..UptoSaid' is the law's where the arguments, and the package variables that the reading takes, are together of bulk at most 1048576: NARROWER than '..Said'. Prove '..Said' where nothing that the law and all that it calls make is longer than what came in: it says more and counts as full. Else prove '..UptoSaid'. A law counts once. -/
mutual
def uptoBulk {H : Type} : DataW H → Nat
  | .lit (.string bytes) => bytes.length + 1
  | .lit _ => 1
  | .nil => 1
  | .ptr d => uptoBulk d + 1
  | .slice elems spare => uptoBulkAll elems + uptoBulkAll spare + 1
  | .agg parts => uptoBulkAll parts + 1
  | .iface _ d => uptoBulk d + 1
  | .map entries => uptoBulkEntries entries + 1
  | .held _ => 1
def uptoBulkAll {H : Type} : List (DataW H) → Nat
  | [] => 0
  | d :: r => uptoBulk d + uptoBulkAll r
def uptoBulkEntries {H : Type} : List (Lit × DataW H) → Nat
  | [] => 0
  | x :: r => uptoBulkEntry x + uptoBulkEntries r
def uptoBulkEntry {H : Type} : Lit × DataW H → Nat
  | (.string bytes, d) => bytes.length + uptoBulk d + 1
  | (_, d) => uptoBulk d + 1
 end
def uptoSmall : (H : Type) → List (DataW H) → Bool := fun _ ds => decide (uptoBulkAll ds ≤ 1048576)
def OpenSpec.upto (s : _root_.Go.ChangeSpec) : _root_.Go.OpenSpec := { _root_.Go.OpenSpec.ofChange s with cond := some uptoSmall }

/-- 'laws.FnQueue', WHERE WHAT IT READS IS OF BULK AT MOST 1048576: true; the input reads as it did. -/
def fnQueueUptoRow : OpenClaim := { program := "ytaiiikfeaokmhaa", sum := "5643bfb5f697b6f9ca0d2049f2adaee8409d226fe4de0d92a5943d19a7a4f0a6", func := "loop.example/g00678/laws.FnQueue", spec := "fnQueue", inPlace := ["slices.overlaps[loop.example/g00678/impl.Due]"], unfollowed := true, recurses := true, apart := false, narrowed := true }
def FnQueueUptoSaid : Prop := fnQueueUptoRow.holds Try.pinned (OpenSpec.upto fnQueueSpec)

/-- 'laws.FnJoin', WHERE WHAT IT READS IS OF BULK AT MOST 1048576: true; the input reads as it did. -/
def fnJoinUptoRow : OpenClaim := { program := "ytaiiikfeaokmhaa", sum := "5643bfb5f697b6f9ca0d2049f2adaee8409d226fe4de0d92a5943d19a7a4f0a6", func := "loop.example/g00678/laws.FnJoin", spec := "fnJoin", inPlace := ["slices.overlaps[loop.example/g00678/impl.Fact]"], unfollowed := true, recurses := true, apart := false, narrowed := true }
def FnJoinUptoSaid : Prop := fnJoinUptoRow.holds Try.pinned (OpenSpec.upto fnJoinSpec)

/-- 'laws.FnRumors', WHERE WHAT IT READS IS OF BULK AT MOST 1048576: true; the input reads as it did. -/
def fnRumorsUptoRow : OpenClaim := { program := "ytaiiikfeaokmhaa", sum := "5643bfb5f697b6f9ca0d2049f2adaee8409d226fe4de0d92a5943d19a7a4f0a6", func := "loop.example/g00678/laws.FnRumors", spec := "fnRumors", inPlace := ["slices.overlaps[loop.example/g00678/impl.Fact]"], unfollowed := true, recurses := true, apart := false, narrowed := true }
def FnRumorsUptoSaid : Prop := fnRumorsUptoRow.holds Try.pinned (OpenSpec.upto fnRumorsSpec)

/-- 'laws.FnMail', WHERE WHAT IT READS IS OF BULK AT MOST 1048576: true; the input reads as it did. -/
def fnMailUptoRow : OpenClaim := { program := "ytaiiikfeaokmhaa", sum := "5643bfb5f697b6f9ca0d2049f2adaee8409d226fe4de0d92a5943d19a7a4f0a6", func := "loop.example/g00678/laws.FnMail", spec := "fnMail", unfollowed := true, recurses := true, apart := false, narrowed := true }
def FnMailUptoSaid : Prop := fnMailUptoRow.holds Try.pinned (OpenSpec.upto fnMailSpec)

end Rows
end Go.Proofs.Ytaiiikfeaokmhaa
