/-
  No cell of these rows narrows 'for every input' (looked for: loops, veiled, ifaces, maps, wideKeys, modest, calm, conditions, laid).
  DERIVED. THE GIVEN ROWS OF THIS SEAT. 4 by the template 'for every input the law returns true; each argument reads behind the call as it read before'; 0 by the template 'total and deterministic' (their statements: YtkgjikjnciihmaaTotals.lean).
  GIVEN WITH THE SEED: the statements are not yours to turn. If you find one false, say at which input.
  Laid BY PROGRAM, IN A SANDBOX (cutbox-rows.mjs): the forced cells as the released guide's own fill.sh prints them over the translation c0b682739e014d9a… (all of the seat's roots in one cut). By AI agents, Wed Nov 11 2026. No macro, syntax, notation, axiom, sorry.
-/
import Derived.Test.YtkgjikjnciihmaaChecked
import GoSem.Claim
import GoSem.ClaimJoined
import GoSem.ClaimMapViews
import Derived.JoinedTies
import Derived.KernelRfl
namespace Go.Proofs.Ytkgjikjnciihmaa
/- THE CELL 'sum', in the pinned program and in every row, IS THE sha256 OF THE DUMP (.gsa) THAT YtkgjikjnciihmaaProg.lean LOADS. Nothing in Lean hashes anything: it is a label: what it is worth is what the hold of that sum in a sandbox is worth. -/
noncomputable def Try.pinned : Pinned := { name := "ytkgjikjnciihmaa", sum := "c0b682739e014d9a1e7f59b3deab9dc1d7e237783d7168b2ed19d309513002aa", checked := Try.checked }
namespace Rows
def none {H : Type} : Left H := { results := [], args := [] }

/-- 'laws.FnNums': WHATEVER THE INPUT: true; the input reads as it did. -/
def fnNumsSpec : ChangeSpec := { name := "fnNums", fn := fun _ => fun
  | [d1, d2] => { results := [.lit (.bool true)], args := [d1, d2] }
  | _ => none }
def fnNumsRow : OpenClaim := { program := "ytkgjikjnciihmaa", sum := "c0b682739e014d9a1e7f59b3deab9dc1d7e237783d7168b2ed19d309513002aa", func := "loop.example/g00678/laws.FnNums", spec := "fnNums", apart := false }
def FnNumsSaid : Prop := fnNumsRow.holds Try.pinned (OpenSpec.ofChange fnNumsSpec)

/-- ITS FALSE NEIGHBOUR: 'it returns false'. Refute it at one input. -/
def fnNumsWrong : ChangeSpec := { name := "fnNums", fn := fun _ => fun
  | [d1, d2] => { results := [.lit (.bool false)], args := [d1, d2] }
  | _ => none }
def FnNumsWrongFalsely : Prop := fnNumsRow.holds Try.pinned (OpenSpec.ofChange fnNumsWrong)

/-- 'laws.FnSeal': WHATEVER THE INPUT: true; the input reads as it did. -/
def fnSealSpec : ChangeSpec := { name := "fnSeal", fn := fun _ => fun
  | [d1, d2] => { results := [.lit (.bool true)], args := [d1, d2] }
  | _ => none }
def fnSealRow : OpenClaim := { program := "ytkgjikjnciihmaa", sum := "c0b682739e014d9a1e7f59b3deab9dc1d7e237783d7168b2ed19d309513002aa", func := "loop.example/g00678/laws.FnSeal", spec := "fnSeal", apart := false }
def FnSealSaid : Prop := fnSealRow.holds Try.pinned (OpenSpec.ofChange fnSealSpec)

/-- ITS FALSE NEIGHBOUR: 'it returns false'. Refute it at one input. -/
def fnSealWrong : ChangeSpec := { name := "fnSeal", fn := fun _ => fun
  | [d1, d2] => { results := [.lit (.bool false)], args := [d1, d2] }
  | _ => none }
def FnSealWrongFalsely : Prop := fnSealRow.holds Try.pinned (OpenSpec.ofChange fnSealWrong)

/-- 'laws.FnTurn': WHATEVER THE INPUT: true; the input reads as it did. -/
def fnTurnSpec : ChangeSpec := { name := "fnTurn", fn := fun _ => fun
  | [d1, d2] => { results := [.lit (.bool true)], args := [d1, d2] }
  | _ => none }
def fnTurnRow : OpenClaim := { program := "ytkgjikjnciihmaa", sum := "c0b682739e014d9a1e7f59b3deab9dc1d7e237783d7168b2ed19d309513002aa", func := "loop.example/g00678/laws.FnTurn", spec := "fnTurn", unfollowed := true, recurses := true, apart := false }
def FnTurnSaid : Prop := fnTurnRow.holds Try.pinned (OpenSpec.ofChange fnTurnSpec)

/-- ITS FALSE NEIGHBOUR: 'it returns false'. Refute it at one input. -/
def fnTurnWrong : ChangeSpec := { name := "fnTurn", fn := fun _ => fun
  | [d1, d2] => { results := [.lit (.bool false)], args := [d1, d2] }
  | _ => none }
def FnTurnWrongFalsely : Prop := fnTurnRow.holds Try.pinned (OpenSpec.ofChange fnTurnWrong)

/-- 'laws.FnChance': WHATEVER THE INPUT: true; the input reads as it did. -/
def fnChanceSpec : ChangeSpec := { name := "fnChance", fn := fun _ => fun
  | [d1, d2] => { results := [.lit (.bool true)], args := [d1, d2] }
  | _ => none }
def fnChanceRow : OpenClaim := { program := "ytkgjikjnciihmaa", sum := "c0b682739e014d9a1e7f59b3deab9dc1d7e237783d7168b2ed19d309513002aa", func := "loop.example/g00678/laws.FnChance", spec := "fnChance", inPlace := ["slices.overlaps[int64]"], unfollowed := true, recurses := true, apart := false }
def FnChanceSaid : Prop := fnChanceRow.holds Try.pinned (OpenSpec.ofChange fnChanceSpec)

/-- ITS FALSE NEIGHBOUR: 'it returns false'. Refute it at one input. -/
def fnChanceWrong : ChangeSpec := { name := "fnChance", fn := fun _ => fun
  | [d1, d2] => { results := [.lit (.bool false)], args := [d1, d2] }
  | _ => none }
def FnChanceWrongFalsely : Prop := fnChanceRow.holds Try.pinned (OpenSpec.ofChange fnChanceWrong)

/- THE SECOND FORM. 'bulk': how many values and letters a reading holds, each counted each time it is reached (what is shared counts as often as it is met; a slice's spare places count too). A statement '..UptoSaid' is the law's where the arguments, and the package variables that the reading takes, are together of bulk at most 1048576: NARROWER than '..Said'. Prove '..Said' where nothing that the law and all that it calls make is longer than what came in: it says more and counts as full. Else prove '..UptoSaid'. A law counts once. -/
mutual
def uptoBulk {H : Type} : DataW H → Nat
  | .lit (.string bytes) => bytes.length + 1
  | .lit _ => 1
  | .nil => 1
  | .ptr d => uptoBulk d + 1
  | .slice elems spare => uptoBulkAll elems + uptoBulkAll spare + 1
  | .agg parts => uptoBulkAll parts + 1
  | .iface _ d => uptoBulk d + 1
  | .map entries => uptoBulkEntries entries + 1
  | .held _ => 1
def uptoBulkAll {H : Type} : List (DataW H) → Nat
  | [] => 0
  | d :: r => uptoBulk d + uptoBulkAll r
def uptoBulkEntries {H : Type} : List (Lit × DataW H) → Nat
  | [] => 0
  | x :: r => uptoBulkEntry x + uptoBulkEntries r
def uptoBulkEntry {H : Type} : Lit × DataW H → Nat
  | (.string bytes, d) => bytes.length + uptoBulk d + 1
  | (_, d) => uptoBulk d + 1
 end
def uptoSmall : (H : Type) → List (DataW H) → Bool := fun _ ds => decide (uptoBulkAll ds ≤ 1048576)
def OpenSpec.upto (s : _root_.Go.ChangeSpec) : _root_.Go.OpenSpec := { _root_.Go.OpenSpec.ofChange s with cond := some uptoSmall }

/-- 'laws.FnNums', WHERE WHAT IT READS IS OF BULK AT MOST 1048576: true; the input reads as it did. -/
def fnNumsUptoRow : OpenClaim := { program := "ytkgjikjnciihmaa", sum := "c0b682739e014d9a1e7f59b3deab9dc1d7e237783d7168b2ed19d309513002aa", func := "loop.example/g00678/laws.FnNums", spec := "fnNums", apart := false, narrowed := true }
def FnNumsUptoSaid : Prop := fnNumsUptoRow.holds Try.pinned (OpenSpec.upto fnNumsSpec)

/-- 'laws.FnSeal', WHERE WHAT IT READS IS OF BULK AT MOST 1048576: true; the input reads as it did. -/
def fnSealUptoRow : OpenClaim := { program := "ytkgjikjnciihmaa", sum := "c0b682739e014d9a1e7f59b3deab9dc1d7e237783d7168b2ed19d309513002aa", func := "loop.example/g00678/laws.FnSeal", spec := "fnSeal", apart := false, narrowed := true }
def FnSealUptoSaid : Prop := fnSealUptoRow.holds Try.pinned (OpenSpec.upto fnSealSpec)

/-- 'laws.FnTurn', WHERE WHAT IT READS IS OF BULK AT MOST 1048576: true; the input reads as it did. -/
def fnTurnUptoRow : OpenClaim := { program := "ytkgjikjnciihmaa", sum := "c0b682739e014d9a1e7f59b3deab9dc1d7e237783d7168b2ed19d309513002aa", func := "loop.example/g00678/laws.FnTurn", spec := "fnTurn", unfollowed := true, recurses := true, apart := false, narrowed := true }
def FnTurnUptoSaid : Prop := fnTurnUptoRow.holds Try.pinned (OpenSpec.upto fnTurnSpec)

/-- 'laws.FnChance', WHERE WHAT IT READS IS OF BULK AT MOST 1048576: true; the input reads as it did. -/
def fnChanceUptoRow : OpenClaim := { program := "ytkgjikjnciihmaa", sum := "c0b682739e014d9a1e7f59b3deab9dc1d7e237783d7168b2ed19d309513002aa", func := "loop.example/g00678/laws.FnChance", spec := "fnChance", inPlace := ["slices.overlaps[int64]"], unfollowed := true, recurses := true, apart := false, narrowed := true }
def FnChanceUptoSaid : Prop := fnChanceUptoRow.holds Try.pinned (OpenSpec.upto fnChanceSpec)

end Rows
end Go.Proofs.Ytkgjikjnciihmaa
