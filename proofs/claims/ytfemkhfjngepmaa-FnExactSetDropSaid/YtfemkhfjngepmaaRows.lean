/-
  No cell of these rows narrows 'for every input' (looked for: loops, veiled, ifaces, maps, wideKeys, modest, calm, conditions, laid).
  DERIVED. THE GIVEN ROWS OF THIS SEAT. 10 by the template 'for every input the law returns true; each argument reads behind the call as it read before'; 0 by the template 'total and deterministic' (their statements: YtfemkhfjngepmaaTotals.lean).
  GIVEN WITH THE SEED: the statements are not yours to turn. If you find one false, say at which input.
  Laid BY PROGRAM, IN A SANDBOX (cutbox-rows.mjs): the forced cells as the released guide's own fill.sh prints them over the translation f494d26b61bcf8fc… (all of the seat's roots in one cut). By AI agents, Wed Nov 11 2026. No macro, syntax, notation, axiom, sorry.
-/
import Derived.Test.YtfemkhfjngepmaaChecked
import GoSem.Claim
import GoSem.ClaimJoined
import GoSem.ClaimMapViews
import Derived.JoinedTies
import Derived.KernelRfl
namespace Go.Proofs.Ytfemkhfjngepmaa
/- THE CELL 'sum', in the pinned program and in every row, IS THE sha256 OF THE DUMP (.gsa) THAT YtfemkhfjngepmaaProg.lean LOADS. Nothing in Lean hashes anything: it is a label: what it is worth is what the hold of that sum in a sandbox is worth. -/
noncomputable def Try.pinned : Pinned := { name := "ytfemkhfjngepmaa", sum := "f494d26b61bcf8fc03a434d54325a929341f494abc6ce3797208abaf41e47f76", checked := Try.checked }
namespace Rows
def none {H : Type} : Left H := { results := [], args := [] }

/-- 'laws.FnExactGetNum': WHATEVER THE INPUT: true; the input reads as it did. -/
def fnExactGetNumSpec : ChangeSpec := { name := "fnExactGetNum", fn := fun _ => fun
  | [d1, d2] => { results := [.lit (.bool true)], args := [d1, d2] }
  | _ => none }
def fnExactGetNumRow : OpenClaim := { program := "ytfemkhfjngepmaa", sum := "f494d26b61bcf8fc03a434d54325a929341f494abc6ce3797208abaf41e47f76", func := "loop.example/g00678/laws.FnExactGetNum", spec := "fnExactGetNum", apart := false }
def FnExactGetNumSaid : Prop := fnExactGetNumRow.holds Try.pinned (OpenSpec.ofChange fnExactGetNumSpec)

/-- ITS FALSE NEIGHBOUR: 'it returns false'. Refute it at one input. -/
def fnExactGetNumWrong : ChangeSpec := { name := "fnExactGetNum", fn := fun _ => fun
  | [d1, d2] => { results := [.lit (.bool false)], args := [d1, d2] }
  | _ => none }
def FnExactGetNumWrongFalsely : Prop := fnExactGetNumRow.holds Try.pinned (OpenSpec.ofChange fnExactGetNumWrong)

/-- 'laws.FnExactUnseal': WHATEVER THE INPUT: true; the input reads as it did. -/
def fnExactUnsealSpec : ChangeSpec := { name := "fnExactUnseal", fn := fun _ => fun
  | [d] => { results := [.lit (.bool true)], args := [d] }
  | _ => none }
def fnExactUnsealRow : OpenClaim := { program := "ytfemkhfjngepmaa", sum := "f494d26b61bcf8fc03a434d54325a929341f494abc6ce3797208abaf41e47f76", func := "loop.example/g00678/laws.FnExactUnseal", spec := "fnExactUnseal", apart := false }
def FnExactUnsealSaid : Prop := fnExactUnsealRow.holds Try.pinned (OpenSpec.ofChange fnExactUnsealSpec)

/-- ITS FALSE NEIGHBOUR: 'it returns false'. Refute it at one input. -/
def fnExactUnsealWrong : ChangeSpec := { name := "fnExactUnseal", fn := fun _ => fun
  | [d] => { results := [.lit (.bool false)], args := [d] }
  | _ => none }
def FnExactUnsealWrongFalsely : Prop := fnExactUnsealRow.holds Try.pinned (OpenSpec.ofChange fnExactUnsealWrong)

/-- 'laws.FnExactGetText': WHATEVER THE INPUT: true; the input reads as it did. -/
def fnExactGetTextSpec : ChangeSpec := { name := "fnExactGetText", fn := fun _ => fun
  | [d1, d2] => { results := [.lit (.bool true)], args := [d1, d2] }
  | _ => none }
def fnExactGetTextRow : OpenClaim := { program := "ytfemkhfjngepmaa", sum := "f494d26b61bcf8fc03a434d54325a929341f494abc6ce3797208abaf41e47f76", func := "loop.example/g00678/laws.FnExactGetText", spec := "fnExactGetText", apart := false }
def FnExactGetTextSaid : Prop := fnExactGetTextRow.holds Try.pinned (OpenSpec.ofChange fnExactGetTextSpec)

/-- ITS FALSE NEIGHBOUR: 'it returns false'. Refute it at one input. -/
def fnExactGetTextWrong : ChangeSpec := { name := "fnExactGetText", fn := fun _ => fun
  | [d1, d2] => { results := [.lit (.bool false)], args := [d1, d2] }
  | _ => none }
def FnExactGetTextWrongFalsely : Prop := fnExactGetTextRow.holds Try.pinned (OpenSpec.ofChange fnExactGetTextWrong)

/-- 'laws.FnNums': WHATEVER THE INPUT: true; the input reads as it did. -/
def fnNumsSpec : ChangeSpec := { name := "fnNums", fn := fun _ => fun
  | [d1, d2] => { results := [.lit (.bool true)], args := [d1, d2] }
  | _ => none }
def fnNumsRow : OpenClaim := { program := "ytfemkhfjngepmaa", sum := "f494d26b61bcf8fc03a434d54325a929341f494abc6ce3797208abaf41e47f76", func := "loop.example/g00678/laws.FnNums", spec := "fnNums", apart := false }
def FnNumsSaid : Prop := fnNumsRow.holds Try.pinned (OpenSpec.ofChange fnNumsSpec)

/-- ITS FALSE NEIGHBOUR: 'it returns false'. Refute it at one input. -/
def fnNumsWrong : ChangeSpec := { name := "fnNums", fn := fun _ => fun
  | [d1, d2] => { results := [.lit (.bool false)], args := [d1, d2] }
  | _ => none }
def FnNumsWrongFalsely : Prop := fnNumsRow.holds Try.pinned (OpenSpec.ofChange fnNumsWrong)

/-- 'laws.FnSeal': WHATEVER THE INPUT: true; the input reads as it did. -/
def fnSealSpec : ChangeSpec := { name := "fnSeal", fn := fun _ => fun
  | [d1, d2] => { results := [.lit (.bool true)], args := [d1, d2] }
  | _ => none }
def fnSealRow : OpenClaim := { program := "ytfemkhfjngepmaa", sum := "f494d26b61bcf8fc03a434d54325a929341f494abc6ce3797208abaf41e47f76", func := "loop.example/g00678/laws.FnSeal", spec := "fnSeal", apart := false }
def FnSealSaid : Prop := fnSealRow.holds Try.pinned (OpenSpec.ofChange fnSealSpec)

/-- ITS FALSE NEIGHBOUR: 'it returns false'. Refute it at one input. -/
def fnSealWrong : ChangeSpec := { name := "fnSeal", fn := fun _ => fun
  | [d1, d2] => { results := [.lit (.bool false)], args := [d1, d2] }
  | _ => none }
def FnSealWrongFalsely : Prop := fnSealRow.holds Try.pinned (OpenSpec.ofChange fnSealWrong)

/-- 'laws.FnExactShuffle': WHATEVER THE INPUT: true; the input reads as it did. -/
def fnExactShuffleSpec : ChangeSpec := { name := "fnExactShuffle", fn := fun _ => fun
  | [d1, d2] => { results := [.lit (.bool true)], args := [d1, d2] }
  | _ => none }
def fnExactShuffleRow : OpenClaim := { program := "ytfemkhfjngepmaa", sum := "f494d26b61bcf8fc03a434d54325a929341f494abc6ce3797208abaf41e47f76", func := "loop.example/g00678/laws.FnExactShuffle", spec := "fnExactShuffle", apart := false }
def FnExactShuffleSaid : Prop := fnExactShuffleRow.holds Try.pinned (OpenSpec.ofChange fnExactShuffleSpec)

/-- ITS FALSE NEIGHBOUR: 'it returns false'. Refute it at one input. -/
def fnExactShuffleWrong : ChangeSpec := { name := "fnExactShuffle", fn := fun _ => fun
  | [d1, d2] => { results := [.lit (.bool false)], args := [d1, d2] }
  | _ => none }
def FnExactShuffleWrongFalsely : Prop := fnExactShuffleRow.holds Try.pinned (OpenSpec.ofChange fnExactShuffleWrong)

/-- 'laws.FnExactSetHas': WHATEVER THE INPUT: true; the input reads as it did. -/
def fnExactSetHasSpec : ChangeSpec := { name := "fnExactSetHas", fn := fun _ => fun
  | [d1, d2] => { results := [.lit (.bool true)], args := [d1, d2] }
  | _ => none }
def fnExactSetHasRow : OpenClaim := { program := "ytfemkhfjngepmaa", sum := "f494d26b61bcf8fc03a434d54325a929341f494abc6ce3797208abaf41e47f76", func := "loop.example/g00678/laws.FnExactSetHas", spec := "fnExactSetHas", apart := false }
def FnExactSetHasSaid : Prop := fnExactSetHasRow.holds Try.pinned (OpenSpec.ofChange fnExactSetHasSpec)

/-- ITS FALSE NEIGHBOUR: 'it returns false'. Refute it at one input. -/
def fnExactSetHasWrong : ChangeSpec := { name := "fnExactSetHas", fn := fun _ => fun
  | [d1, d2] => { results := [.lit (.bool false)], args := [d1, d2] }
  | _ => none }
def FnExactSetHasWrongFalsely : Prop := fnExactSetHasRow.holds Try.pinned (OpenSpec.ofChange fnExactSetHasWrong)

/-- 'laws.FnExactSetDrop': WHATEVER THE INPUT: true; the input reads as it did. -/
def fnExactSetDropSpec : ChangeSpec := { name := "fnExactSetDrop", fn := fun _ => fun
  | [d1, d2] => { results := [.lit (.bool true)], args := [d1, d2] }
  | _ => none }
def fnExactSetDropRow : OpenClaim := { program := "ytfemkhfjngepmaa", sum := "f494d26b61bcf8fc03a434d54325a929341f494abc6ce3797208abaf41e47f76", func := "loop.example/g00678/laws.FnExactSetDrop", spec := "fnExactSetDrop", unfollowed := true, recurses := true, apart := false }
def FnExactSetDropSaid : Prop := fnExactSetDropRow.holds Try.pinned (OpenSpec.ofChange fnExactSetDropSpec)

/-- ITS FALSE NEIGHBOUR: 'it returns false'. Refute it at one input. -/
def fnExactSetDropWrong : ChangeSpec := { name := "fnExactSetDrop", fn := fun _ => fun
  | [d1, d2] => { results := [.lit (.bool false)], args := [d1, d2] }
  | _ => none }
def FnExactSetDropWrongFalsely : Prop := fnExactSetDropRow.holds Try.pinned (OpenSpec.ofChange fnExactSetDropWrong)

/-- 'laws.FnExactSetPut': WHATEVER THE INPUT: true; the input reads as it did. -/
def fnExactSetPutSpec : ChangeSpec := { name := "fnExactSetPut", fn := fun _ => fun
  | [d1, d2] => { results := [.lit (.bool true)], args := [d1, d2] }
  | _ => none }
def fnExactSetPutRow : OpenClaim := { program := "ytfemkhfjngepmaa", sum := "f494d26b61bcf8fc03a434d54325a929341f494abc6ce3797208abaf41e47f76", func := "loop.example/g00678/laws.FnExactSetPut", spec := "fnExactSetPut", inPlace := ["slices.overlaps[int64]"], apart := false }
def FnExactSetPutSaid : Prop := fnExactSetPutRow.holds Try.pinned (OpenSpec.ofChange fnExactSetPutSpec)

/-- ITS FALSE NEIGHBOUR: 'it returns false'. Refute it at one input. -/
def fnExactSetPutWrong : ChangeSpec := { name := "fnExactSetPut", fn := fun _ => fun
  | [d1, d2] => { results := [.lit (.bool false)], args := [d1, d2] }
  | _ => none }
def FnExactSetPutWrongFalsely : Prop := fnExactSetPutRow.holds Try.pinned (OpenSpec.ofChange fnExactSetPutWrong)

/-- 'laws.FnChance': WHATEVER THE INPUT: true; the input reads as it did. -/
def fnChanceSpec : ChangeSpec := { name := "fnChance", fn := fun _ => fun
  | [d1, d2] => { results := [.lit (.bool true)], args := [d1, d2] }
  | _ => none }
def fnChanceRow : OpenClaim := { program := "ytfemkhfjngepmaa", sum := "f494d26b61bcf8fc03a434d54325a929341f494abc6ce3797208abaf41e47f76", func := "loop.example/g00678/laws.FnChance", spec := "fnChance", inPlace := ["slices.overlaps[int64]"], unfollowed := true, recurses := true, apart := false }
def FnChanceSaid : Prop := fnChanceRow.holds Try.pinned (OpenSpec.ofChange fnChanceSpec)

/-- ITS FALSE NEIGHBOUR: 'it returns false'. Refute it at one input. -/
def fnChanceWrong : ChangeSpec := { name := "fnChance", fn := fun _ => fun
  | [d1, d2] => { results := [.lit (.bool false)], args := [d1, d2] }
  | _ => none }
def FnChanceWrongFalsely : Prop := fnChanceRow.holds Try.pinned (OpenSpec.ofChange fnChanceWrong)

/- THE SECOND FORM. 'bulk': how many values and letters a reading holds, each counted each time it is reached (what is shared counts as often as it is met; a slice's spare places count too). A statement '..UptoSaid' is the law's where the arguments, and the package variables that the reading takes, are together of bulk at most 1048576: NARROWER than '..Said'. Prove '..Said' where nothing that the law and all that it calls make is longer than what came in: it says more and counts as full. Else prove '..UptoSaid'. A law counts once. -/
mutual
def uptoBulk {H : Type} : DataW H → Nat
  | .lit (.string bytes) => bytes.length + 1
  | .lit _ => 1
  | .nil => 1
  | .ptr d => uptoBulk d + 1
  | .slice elems spare => uptoBulkAll elems + uptoBulkAll spare + 1
  | .agg parts => uptoBulkAll parts + 1
  | .iface _ d => uptoBulk d + 1
  | .map entries => uptoBulkEntries entries + 1
  | .held _ => 1
def uptoBulkAll {H : Type} : List (DataW H) → Nat
  | [] => 0
  | d :: r => uptoBulk d + uptoBulkAll r
def uptoBulkEntries {H : Type} : List (Lit × DataW H) → Nat
  | [] => 0
  | x :: r => uptoBulkEntry x + uptoBulkEntries r
def uptoBulkEntry {H : Type} : Lit × DataW H → Nat
  | (.string bytes, d) => bytes.length + uptoBulk d + 1
  | (_, d) => uptoBulk d + 1
 end
def uptoSmall : (H : Type) → List (DataW H) → Bool := fun _ ds => decide (uptoBulkAll ds ≤ 1048576)
def OpenSpec.upto (s : _root_.Go.ChangeSpec) : _root_.Go.OpenSpec := { _root_.Go.OpenSpec.ofChange s with cond := some uptoSmall }

/-- 'laws.FnExactGetNum', WHERE WHAT IT READS IS OF BULK AT MOST 1048576: true; the input reads as it did. -/
def fnExactGetNumUptoRow : OpenClaim := { program := "ytfemkhfjngepmaa", sum := "f494d26b61bcf8fc03a434d54325a929341f494abc6ce3797208abaf41e47f76", func := "loop.example/g00678/laws.FnExactGetNum", spec := "fnExactGetNum", apart := false, narrowed := true }
def FnExactGetNumUptoSaid : Prop := fnExactGetNumUptoRow.holds Try.pinned (OpenSpec.upto fnExactGetNumSpec)

/-- 'laws.FnExactUnseal', WHERE WHAT IT READS IS OF BULK AT MOST 1048576: true; the input reads as it did. -/
def fnExactUnsealUptoRow : OpenClaim := { program := "ytfemkhfjngepmaa", sum := "f494d26b61bcf8fc03a434d54325a929341f494abc6ce3797208abaf41e47f76", func := "loop.example/g00678/laws.FnExactUnseal", spec := "fnExactUnseal", apart := false, narrowed := true }
def FnExactUnsealUptoSaid : Prop := fnExactUnsealUptoRow.holds Try.pinned (OpenSpec.upto fnExactUnsealSpec)

/-- 'laws.FnExactGetText', WHERE WHAT IT READS IS OF BULK AT MOST 1048576: true; the input reads as it did. -/
def fnExactGetTextUptoRow : OpenClaim := { program := "ytfemkhfjngepmaa", sum := "f494d26b61bcf8fc03a434d54325a929341f494abc6ce3797208abaf41e47f76", func := "loop.example/g00678/laws.FnExactGetText", spec := "fnExactGetText", apart := false, narrowed := true }
def FnExactGetTextUptoSaid : Prop := fnExactGetTextUptoRow.holds Try.pinned (OpenSpec.upto fnExactGetTextSpec)

/-- 'laws.FnNums', WHERE WHAT IT READS IS OF BULK AT MOST 1048576: true; the input reads as it did. -/
def fnNumsUptoRow : OpenClaim := { program := "ytfemkhfjngepmaa", sum := "f494d26b61bcf8fc03a434d54325a929341f494abc6ce3797208abaf41e47f76", func := "loop.example/g00678/laws.FnNums", spec := "fnNums", apart := false, narrowed := true }
def FnNumsUptoSaid : Prop := fnNumsUptoRow.holds Try.pinned (OpenSpec.upto fnNumsSpec)

/-- 'laws.FnSeal', WHERE WHAT IT READS IS OF BULK AT MOST 1048576: true; the input reads as it did. -/
def fnSealUptoRow : OpenClaim := { program := "ytfemkhfjngepmaa", sum := "f494d26b61bcf8fc03a434d54325a929341f494abc6ce3797208abaf41e47f76", func := "loop.example/g00678/laws.FnSeal", spec := "fnSeal", apart := false, narrowed := true }
def FnSealUptoSaid : Prop := fnSealUptoRow.holds Try.pinned (OpenSpec.upto fnSealSpec)

/-- 'laws.FnExactShuffle', WHERE WHAT IT READS IS OF BULK AT MOST 1048576: true; the input reads as it did. -/
def fnExactShuffleUptoRow : OpenClaim := { program := "ytfemkhfjngepmaa", sum := "f494d26b61bcf8fc03a434d54325a929341f494abc6ce3797208abaf41e47f76", func := "loop.example/g00678/laws.FnExactShuffle", spec := "fnExactShuffle", apart := false, narrowed := true }
def FnExactShuffleUptoSaid : Prop := fnExactShuffleUptoRow.holds Try.pinned (OpenSpec.upto fnExactShuffleSpec)

/-- 'laws.FnExactSetHas', WHERE WHAT IT READS IS OF BULK AT MOST 1048576: true; the input reads as it did. -/
def fnExactSetHasUptoRow : OpenClaim := { program := "ytfemkhfjngepmaa", sum := "f494d26b61bcf8fc03a434d54325a929341f494abc6ce3797208abaf41e47f76", func := "loop.example/g00678/laws.FnExactSetHas", spec := "fnExactSetHas", apart := false, narrowed := true }
def FnExactSetHasUptoSaid : Prop := fnExactSetHasUptoRow.holds Try.pinned (OpenSpec.upto fnExactSetHasSpec)

/-- 'laws.FnExactSetDrop', WHERE WHAT IT READS IS OF BULK AT MOST 1048576: true; the input reads as it did. -/
def fnExactSetDropUptoRow : OpenClaim := { program := "ytfemkhfjngepmaa", sum := "f494d26b61bcf8fc03a434d54325a929341f494abc6ce3797208abaf41e47f76", func := "loop.example/g00678/laws.FnExactSetDrop", spec := "fnExactSetDrop", unfollowed := true, recurses := true, apart := false, narrowed := true }
def FnExactSetDropUptoSaid : Prop := fnExactSetDropUptoRow.holds Try.pinned (OpenSpec.upto fnExactSetDropSpec)

/-- 'laws.FnExactSetPut', WHERE WHAT IT READS IS OF BULK AT MOST 1048576: true; the input reads as it did. -/
def fnExactSetPutUptoRow : OpenClaim := { program := "ytfemkhfjngepmaa", sum := "f494d26b61bcf8fc03a434d54325a929341f494abc6ce3797208abaf41e47f76", func := "loop.example/g00678/laws.FnExactSetPut", spec := "fnExactSetPut", inPlace := ["slices.overlaps[int64]"], apart := false, narrowed := true }
def FnExactSetPutUptoSaid : Prop := fnExactSetPutUptoRow.holds Try.pinned (OpenSpec.upto fnExactSetPutSpec)

/-- 'laws.FnChance', WHERE WHAT IT READS IS OF BULK AT MOST 1048576: true; the input reads as it did. -/
def fnChanceUptoRow : OpenClaim := { program := "ytfemkhfjngepmaa", sum := "f494d26b61bcf8fc03a434d54325a929341f494abc6ce3797208abaf41e47f76", func := "loop.example/g00678/laws.FnChance", spec := "fnChance", inPlace := ["slices.overlaps[int64]"], unfollowed := true, recurses := true, apart := false, narrowed := true }
def FnChanceUptoSaid : Prop := fnChanceUptoRow.holds Try.pinned (OpenSpec.upto fnChanceSpec)

end Rows
end Go.Proofs.Ytfemkhfjngepmaa
