/-
  No cell of these rows narrows 'for every input' (looked for: loops, veiled, ifaces, maps, wideKeys, modest, calm, conditions, laid).
  DERIVED. THE GIVEN ROWS OF THIS SEAT. 12 by the template 'for every input the law returns true; each argument reads behind the call as it read before'; 0 by the template 'total and deterministic' (their statements: YtjgojfdninlcbaaTotals.lean).
  GIVEN WITH THE SEED: the statements are not yours to turn. If you find one false, say at which input.
  Laid BY PROGRAM, IN A SANDBOX (cutbox-rows.mjs): the forced cells as the released guide's own fill.sh prints them over the translation d905546f5be4bd39… (all of the seat's roots in one cut). By AI agents, Wed Nov 11 2026. No macro, syntax, notation, axiom, sorry.
-/
import Derived.Test.YtjgojfdninlcbaaChecked
import GoSem.Claim
import GoSem.ClaimJoined
import GoSem.ClaimMapViews
import Derived.JoinedTies
import Derived.KernelRfl
namespace Go.Proofs.Ytjgojfdninlcbaa
/- THE CELL 'sum', in the pinned program and in every row, IS THE sha256 OF THE DUMP (.gsa) THAT YtjgojfdninlcbaaProg.lean LOADS. Nothing in Lean hashes anything: it is a label: what it is worth is what the hold of that sum in a sandbox is worth. -/
noncomputable def Try.pinned : Pinned := { name := "ytjgojfdninlcbaa", sum := "d905546f5be4bd396f2fb66a78b437aaf135d736252f02a5398a762bff5c3eed", checked := Try.checked }
namespace Rows
def none {H : Type} : Left H := { results := [], args := [] }

/-- 'laws.FnExactConstants': WHATEVER THE INPUT: true; the input reads as it did. -/
def fnExactConstantsSpec : ChangeSpec := { name := "fnExactConstants", fn := fun _ => fun
  | [] => { results := [.lit (.bool true)], args := [] }
  | _ => none }
def fnExactConstantsRow : OpenClaim := { program := "ytjgojfdninlcbaa", sum := "d905546f5be4bd396f2fb66a78b437aaf135d736252f02a5398a762bff5c3eed", func := "loop.example/g00678/laws.FnExactConstants", spec := "fnExactConstants", apart := false }
def FnExactConstantsSaid : Prop := fnExactConstantsRow.holds Try.pinned (OpenSpec.ofChange fnExactConstantsSpec)

/-- ITS FALSE NEIGHBOUR: 'it returns false'. Refute it at one input. -/
def fnExactConstantsWrong : ChangeSpec := { name := "fnExactConstants", fn := fun _ => fun
  | [] => { results := [.lit (.bool false)], args := [] }
  | _ => none }
def FnExactConstantsWrongFalsely : Prop := fnExactConstantsRow.holds Try.pinned (OpenSpec.ofChange fnExactConstantsWrong)

/-- 'laws.FnExactFactRight': WHATEVER THE INPUT: true; the input reads as it did. -/
def fnExactFactRightSpec : ChangeSpec := { name := "fnExactFactRight", fn := fun _ => fun
  | [d] => { results := [.lit (.bool true)], args := [d] }
  | _ => none }
def fnExactFactRightRow : OpenClaim := { program := "ytjgojfdninlcbaa", sum := "d905546f5be4bd396f2fb66a78b437aaf135d736252f02a5398a762bff5c3eed", func := "loop.example/g00678/laws.FnExactFactRight", spec := "fnExactFactRight", apart := false }
def FnExactFactRightSaid : Prop := fnExactFactRightRow.holds Try.pinned (OpenSpec.ofChange fnExactFactRightSpec)

/-- ITS FALSE NEIGHBOUR: 'it returns false'. Refute it at one input. -/
def fnExactFactRightWrong : ChangeSpec := { name := "fnExactFactRight", fn := fun _ => fun
  | [d] => { results := [.lit (.bool false)], args := [d] }
  | _ => none }
def FnExactFactRightWrongFalsely : Prop := fnExactFactRightRow.holds Try.pinned (OpenSpec.ofChange fnExactFactRightWrong)

/-- 'laws.FnExactNameRight': WHATEVER THE INPUT: true; the input reads as it did. -/
def fnExactNameRightSpec : ChangeSpec := { name := "fnExactNameRight", fn := fun _ => fun
  | [d] => { results := [.lit (.bool true)], args := [d] }
  | _ => none }
def fnExactNameRightRow : OpenClaim := { program := "ytjgojfdninlcbaa", sum := "d905546f5be4bd396f2fb66a78b437aaf135d736252f02a5398a762bff5c3eed", func := "loop.example/g00678/laws.FnExactNameRight", spec := "fnExactNameRight", apart := false }
def FnExactNameRightSaid : Prop := fnExactNameRightRow.holds Try.pinned (OpenSpec.ofChange fnExactNameRightSpec)

/-- ITS FALSE NEIGHBOUR: 'it returns false'. Refute it at one input. -/
def fnExactNameRightWrong : ChangeSpec := { name := "fnExactNameRight", fn := fun _ => fun
  | [d] => { results := [.lit (.bool false)], args := [d] }
  | _ => none }
def FnExactNameRightWrongFalsely : Prop := fnExactNameRightRow.holds Try.pinned (OpenSpec.ofChange fnExactNameRightWrong)

/-- 'laws.FnExactPutNum': WHATEVER THE INPUT: true; the input reads as it did. -/
def fnExactPutNumSpec : ChangeSpec := { name := "fnExactPutNum", fn := fun _ => fun
  | [d] => { results := [.lit (.bool true)], args := [d] }
  | _ => none }
def fnExactPutNumRow : OpenClaim := { program := "ytjgojfdninlcbaa", sum := "d905546f5be4bd396f2fb66a78b437aaf135d736252f02a5398a762bff5c3eed", func := "loop.example/g00678/laws.FnExactPutNum", spec := "fnExactPutNum", apart := false }
def FnExactPutNumSaid : Prop := fnExactPutNumRow.holds Try.pinned (OpenSpec.ofChange fnExactPutNumSpec)

/-- ITS FALSE NEIGHBOUR: 'it returns false'. Refute it at one input. -/
def fnExactPutNumWrong : ChangeSpec := { name := "fnExactPutNum", fn := fun _ => fun
  | [d] => { results := [.lit (.bool false)], args := [d] }
  | _ => none }
def FnExactPutNumWrongFalsely : Prop := fnExactPutNumRow.holds Try.pinned (OpenSpec.ofChange fnExactPutNumWrong)

/-- 'laws.FnExactFactLess': WHATEVER THE INPUT: true; the input reads as it did. -/
def fnExactFactLessSpec : ChangeSpec := { name := "fnExactFactLess", fn := fun _ => fun
  | [d1, d2] => { results := [.lit (.bool true)], args := [d1, d2] }
  | _ => none }
def fnExactFactLessRow : OpenClaim := { program := "ytjgojfdninlcbaa", sum := "d905546f5be4bd396f2fb66a78b437aaf135d736252f02a5398a762bff5c3eed", func := "loop.example/g00678/laws.FnExactFactLess", spec := "fnExactFactLess", apart := false }
def FnExactFactLessSaid : Prop := fnExactFactLessRow.holds Try.pinned (OpenSpec.ofChange fnExactFactLessSpec)

/-- ITS FALSE NEIGHBOUR: 'it returns false'. Refute it at one input. -/
def fnExactFactLessWrong : ChangeSpec := { name := "fnExactFactLess", fn := fun _ => fun
  | [d1, d2] => { results := [.lit (.bool false)], args := [d1, d2] }
  | _ => none }
def FnExactFactLessWrongFalsely : Prop := fnExactFactLessRow.holds Try.pinned (OpenSpec.ofChange fnExactFactLessWrong)

/-- 'laws.FnExactChance': WHATEVER THE INPUT: true; the input reads as it did. -/
def fnExactChanceSpec : ChangeSpec := { name := "fnExactChance", fn := fun _ => fun
  | [d1, d2] => { results := [.lit (.bool true)], args := [d1, d2] }
  | _ => none }
def fnExactChanceRow : OpenClaim := { program := "ytjgojfdninlcbaa", sum := "d905546f5be4bd396f2fb66a78b437aaf135d736252f02a5398a762bff5c3eed", func := "loop.example/g00678/laws.FnExactChance", spec := "fnExactChance", apart := false }
def FnExactChanceSaid : Prop := fnExactChanceRow.holds Try.pinned (OpenSpec.ofChange fnExactChanceSpec)

/-- ITS FALSE NEIGHBOUR: 'it returns false'. Refute it at one input. -/
def fnExactChanceWrong : ChangeSpec := { name := "fnExactChance", fn := fun _ => fun
  | [d1, d2] => { results := [.lit (.bool false)], args := [d1, d2] }
  | _ => none }
def FnExactChanceWrongFalsely : Prop := fnExactChanceRow.holds Try.pinned (OpenSpec.ofChange fnExactChanceWrong)

/-- 'laws.FnExactSetRight': WHATEVER THE INPUT: true; the input reads as it did. -/
def fnExactSetRightSpec : ChangeSpec := { name := "fnExactSetRight", fn := fun _ => fun
  | [d] => { results := [.lit (.bool true)], args := [d] }
  | _ => none }
def fnExactSetRightRow : OpenClaim := { program := "ytjgojfdninlcbaa", sum := "d905546f5be4bd396f2fb66a78b437aaf135d736252f02a5398a762bff5c3eed", func := "loop.example/g00678/laws.FnExactSetRight", spec := "fnExactSetRight", apart := false }
def FnExactSetRightSaid : Prop := fnExactSetRightRow.holds Try.pinned (OpenSpec.ofChange fnExactSetRightSpec)

/-- ITS FALSE NEIGHBOUR: 'it returns false'. Refute it at one input. -/
def fnExactSetRightWrong : ChangeSpec := { name := "fnExactSetRight", fn := fun _ => fun
  | [d] => { results := [.lit (.bool false)], args := [d] }
  | _ => none }
def FnExactSetRightWrongFalsely : Prop := fnExactSetRightRow.holds Try.pinned (OpenSpec.ofChange fnExactSetRightWrong)

/-- 'laws.FnExactPutText': WHATEVER THE INPUT: true; the input reads as it did. -/
def fnExactPutTextSpec : ChangeSpec := { name := "fnExactPutText", fn := fun _ => fun
  | [d] => { results := [.lit (.bool true)], args := [d] }
  | _ => none }
def fnExactPutTextRow : OpenClaim := { program := "ytjgojfdninlcbaa", sum := "d905546f5be4bd396f2fb66a78b437aaf135d736252f02a5398a762bff5c3eed", func := "loop.example/g00678/laws.FnExactPutText", spec := "fnExactPutText", apart := false }
def FnExactPutTextSaid : Prop := fnExactPutTextRow.holds Try.pinned (OpenSpec.ofChange fnExactPutTextSpec)

/-- ITS FALSE NEIGHBOUR: 'it returns false'. Refute it at one input. -/
def fnExactPutTextWrong : ChangeSpec := { name := "fnExactPutText", fn := fun _ => fun
  | [d] => { results := [.lit (.bool false)], args := [d] }
  | _ => none }
def FnExactPutTextWrongFalsely : Prop := fnExactPutTextRow.holds Try.pinned (OpenSpec.ofChange fnExactPutTextWrong)

/-- 'laws.FnExactCrc': WHATEVER THE INPUT: true; the input reads as it did. -/
def fnExactCrcSpec : ChangeSpec := { name := "fnExactCrc", fn := fun _ => fun
  | [d] => { results := [.lit (.bool true)], args := [d] }
  | _ => none }
def fnExactCrcRow : OpenClaim := { program := "ytjgojfdninlcbaa", sum := "d905546f5be4bd396f2fb66a78b437aaf135d736252f02a5398a762bff5c3eed", func := "loop.example/g00678/laws.FnExactCrc", spec := "fnExactCrc", apart := false }
def FnExactCrcSaid : Prop := fnExactCrcRow.holds Try.pinned (OpenSpec.ofChange fnExactCrcSpec)

/-- ITS FALSE NEIGHBOUR: 'it returns false'. Refute it at one input. -/
def fnExactCrcWrong : ChangeSpec := { name := "fnExactCrc", fn := fun _ => fun
  | [d] => { results := [.lit (.bool false)], args := [d] }
  | _ => none }
def FnExactCrcWrongFalsely : Prop := fnExactCrcRow.holds Try.pinned (OpenSpec.ofChange fnExactCrcWrong)

/-- 'laws.FnExactSeal': WHATEVER THE INPUT: true; the input reads as it did. -/
def fnExactSealSpec : ChangeSpec := { name := "fnExactSeal", fn := fun _ => fun
  | [d] => { results := [.lit (.bool true)], args := [d] }
  | _ => none }
def fnExactSealRow : OpenClaim := { program := "ytjgojfdninlcbaa", sum := "d905546f5be4bd396f2fb66a78b437aaf135d736252f02a5398a762bff5c3eed", func := "loop.example/g00678/laws.FnExactSeal", spec := "fnExactSeal", apart := false }
def FnExactSealSaid : Prop := fnExactSealRow.holds Try.pinned (OpenSpec.ofChange fnExactSealSpec)

/-- ITS FALSE NEIGHBOUR: 'it returns false'. Refute it at one input. -/
def fnExactSealWrong : ChangeSpec := { name := "fnExactSeal", fn := fun _ => fun
  | [d] => { results := [.lit (.bool false)], args := [d] }
  | _ => none }
def FnExactSealWrongFalsely : Prop := fnExactSealRow.holds Try.pinned (OpenSpec.ofChange fnExactSealWrong)

/-- 'laws.FnExactCrcMore': WHATEVER THE INPUT: true; the input reads as it did. -/
def fnExactCrcMoreSpec : ChangeSpec := { name := "fnExactCrcMore", fn := fun _ => fun
  | [d1, d2] => { results := [.lit (.bool true)], args := [d1, d2] }
  | _ => none }
def fnExactCrcMoreRow : OpenClaim := { program := "ytjgojfdninlcbaa", sum := "d905546f5be4bd396f2fb66a78b437aaf135d736252f02a5398a762bff5c3eed", func := "loop.example/g00678/laws.FnExactCrcMore", spec := "fnExactCrcMore", apart := false }
def FnExactCrcMoreSaid : Prop := fnExactCrcMoreRow.holds Try.pinned (OpenSpec.ofChange fnExactCrcMoreSpec)

/-- ITS FALSE NEIGHBOUR: 'it returns false'. Refute it at one input. -/
def fnExactCrcMoreWrong : ChangeSpec := { name := "fnExactCrcMore", fn := fun _ => fun
  | [d1, d2] => { results := [.lit (.bool false)], args := [d1, d2] }
  | _ => none }
def FnExactCrcMoreWrongFalsely : Prop := fnExactCrcMoreRow.holds Try.pinned (OpenSpec.ofChange fnExactCrcMoreWrong)

/-- 'laws.FnExactFactJoin': WHATEVER THE INPUT: true; the input reads as it did. -/
def fnExactFactJoinSpec : ChangeSpec := { name := "fnExactFactJoin", fn := fun _ => fun
  | [d1, d2] => { results := [.lit (.bool true)], args := [d1, d2] }
  | _ => none }
def fnExactFactJoinRow : OpenClaim := { program := "ytjgojfdninlcbaa", sum := "d905546f5be4bd396f2fb66a78b437aaf135d736252f02a5398a762bff5c3eed", func := "loop.example/g00678/laws.FnExactFactJoin", spec := "fnExactFactJoin", apart := false }
def FnExactFactJoinSaid : Prop := fnExactFactJoinRow.holds Try.pinned (OpenSpec.ofChange fnExactFactJoinSpec)

/-- ITS FALSE NEIGHBOUR: 'it returns false'. Refute it at one input. -/
def fnExactFactJoinWrong : ChangeSpec := { name := "fnExactFactJoin", fn := fun _ => fun
  | [d1, d2] => { results := [.lit (.bool false)], args := [d1, d2] }
  | _ => none }
def FnExactFactJoinWrongFalsely : Prop := fnExactFactJoinRow.holds Try.pinned (OpenSpec.ofChange fnExactFactJoinWrong)

/- THE SECOND FORM. 'bulk': how many values and letters a reading holds, each counted each time it is reached (what is shared counts as often as it is met; a slice's spare places count too). A statement '..UptoSaid' is the law's where the arguments, and the package variables that the reading takes, are together of bulk at most 1048576: NARROWER than '..Said'. Prove '..Said' where nothing that the law and all that it calls make is longer than what came in: it says more and counts as full. Else prove '..UptoSaid'. A law counts once. -/
mutual
def uptoBulk {H : Type} : DataW H → Nat
  | .lit (.string bytes) => bytes.length + 1
  | .lit _ => 1
  | .nil => 1
  | .ptr d => uptoBulk d + 1
  | .slice elems spare => uptoBulkAll elems + uptoBulkAll spare + 1
  | .agg parts => uptoBulkAll parts + 1
  | .iface _ d => uptoBulk d + 1
  | .map entries => uptoBulkEntries entries + 1
  | .held _ => 1
def uptoBulkAll {H : Type} : List (DataW H) → Nat
  | [] => 0
  | d :: r => uptoBulk d + uptoBulkAll r
def uptoBulkEntries {H : Type} : List (Lit × DataW H) → Nat
  | [] => 0
  | x :: r => uptoBulkEntry x + uptoBulkEntries r
def uptoBulkEntry {H : Type} : Lit × DataW H → Nat
  | (.string bytes, d) => bytes.length + uptoBulk d + 1
  | (_, d) => uptoBulk d + 1
 end
def uptoSmall : (H : Type) → List (DataW H) → Bool := fun _ ds => decide (uptoBulkAll ds ≤ 1048576)
def OpenSpec.upto (s : _root_.Go.ChangeSpec) : _root_.Go.OpenSpec := { _root_.Go.OpenSpec.ofChange s with cond := some uptoSmall }

/-- 'laws.FnExactConstants', WHERE WHAT IT READS IS OF BULK AT MOST 1048576: true; the input reads as it did. -/
def fnExactConstantsUptoRow : OpenClaim := { program := "ytjgojfdninlcbaa", sum := "d905546f5be4bd396f2fb66a78b437aaf135d736252f02a5398a762bff5c3eed", func := "loop.example/g00678/laws.FnExactConstants", spec := "fnExactConstants", apart := false, narrowed := true }
def FnExactConstantsUptoSaid : Prop := fnExactConstantsUptoRow.holds Try.pinned (OpenSpec.upto fnExactConstantsSpec)

/-- 'laws.FnExactFactRight', WHERE WHAT IT READS IS OF BULK AT MOST 1048576: true; the input reads as it did. -/
def fnExactFactRightUptoRow : OpenClaim := { program := "ytjgojfdninlcbaa", sum := "d905546f5be4bd396f2fb66a78b437aaf135d736252f02a5398a762bff5c3eed", func := "loop.example/g00678/laws.FnExactFactRight", spec := "fnExactFactRight", apart := false, narrowed := true }
def FnExactFactRightUptoSaid : Prop := fnExactFactRightUptoRow.holds Try.pinned (OpenSpec.upto fnExactFactRightSpec)

/-- 'laws.FnExactNameRight', WHERE WHAT IT READS IS OF BULK AT MOST 1048576: true; the input reads as it did. -/
def fnExactNameRightUptoRow : OpenClaim := { program := "ytjgojfdninlcbaa", sum := "d905546f5be4bd396f2fb66a78b437aaf135d736252f02a5398a762bff5c3eed", func := "loop.example/g00678/laws.FnExactNameRight", spec := "fnExactNameRight", apart := false, narrowed := true }
def FnExactNameRightUptoSaid : Prop := fnExactNameRightUptoRow.holds Try.pinned (OpenSpec.upto fnExactNameRightSpec)

/-- 'laws.FnExactPutNum', WHERE WHAT IT READS IS OF BULK AT MOST 1048576: true; the input reads as it did. -/
def fnExactPutNumUptoRow : OpenClaim := { program := "ytjgojfdninlcbaa", sum := "d905546f5be4bd396f2fb66a78b437aaf135d736252f02a5398a762bff5c3eed", func := "loop.example/g00678/laws.FnExactPutNum", spec := "fnExactPutNum", apart := false, narrowed := true }
def FnExactPutNumUptoSaid : Prop := fnExactPutNumUptoRow.holds Try.pinned (OpenSpec.upto fnExactPutNumSpec)

/-- 'laws.FnExactFactLess', WHERE WHAT IT READS IS OF BULK AT MOST 1048576: true; the input reads as it did. -/
def fnExactFactLessUptoRow : OpenClaim := { program := "ytjgojfdninlcbaa", sum := "d905546f5be4bd396f2fb66a78b437aaf135d736252f02a5398a762bff5c3eed", func := "loop.example/g00678/laws.FnExactFactLess", spec := "fnExactFactLess", apart := false, narrowed := true }
def FnExactFactLessUptoSaid : Prop := fnExactFactLessUptoRow.holds Try.pinned (OpenSpec.upto fnExactFactLessSpec)

/-- 'laws.FnExactChance', WHERE WHAT IT READS IS OF BULK AT MOST 1048576: true; the input reads as it did. -/
def fnExactChanceUptoRow : OpenClaim := { program := "ytjgojfdninlcbaa", sum := "d905546f5be4bd396f2fb66a78b437aaf135d736252f02a5398a762bff5c3eed", func := "loop.example/g00678/laws.FnExactChance", spec := "fnExactChance", apart := false, narrowed := true }
def FnExactChanceUptoSaid : Prop := fnExactChanceUptoRow.holds Try.pinned (OpenSpec.upto fnExactChanceSpec)

/-- 'laws.FnExactSetRight', WHERE WHAT IT READS IS OF BULK AT MOST 1048576: true; the input reads as it did. -/
def fnExactSetRightUptoRow : OpenClaim := { program := "ytjgojfdninlcbaa", sum := "d905546f5be4bd396f2fb66a78b437aaf135d736252f02a5398a762bff5c3eed", func := "loop.example/g00678/laws.FnExactSetRight", spec := "fnExactSetRight", apart := false, narrowed := true }
def FnExactSetRightUptoSaid : Prop := fnExactSetRightUptoRow.holds Try.pinned (OpenSpec.upto fnExactSetRightSpec)

/-- 'laws.FnExactPutText', WHERE WHAT IT READS IS OF BULK AT MOST 1048576: true; the input reads as it did. -/
def fnExactPutTextUptoRow : OpenClaim := { program := "ytjgojfdninlcbaa", sum := "d905546f5be4bd396f2fb66a78b437aaf135d736252f02a5398a762bff5c3eed", func := "loop.example/g00678/laws.FnExactPutText", spec := "fnExactPutText", apart := false, narrowed := true }
def FnExactPutTextUptoSaid : Prop := fnExactPutTextUptoRow.holds Try.pinned (OpenSpec.upto fnExactPutTextSpec)

/-- 'laws.FnExactCrc', WHERE WHAT IT READS IS OF BULK AT MOST 1048576: true; the input reads as it did. -/
def fnExactCrcUptoRow : OpenClaim := { program := "ytjgojfdninlcbaa", sum := "d905546f5be4bd396f2fb66a78b437aaf135d736252f02a5398a762bff5c3eed", func := "loop.example/g00678/laws.FnExactCrc", spec := "fnExactCrc", apart := false, narrowed := true }
def FnExactCrcUptoSaid : Prop := fnExactCrcUptoRow.holds Try.pinned (OpenSpec.upto fnExactCrcSpec)

/-- 'laws.FnExactSeal', WHERE WHAT IT READS IS OF BULK AT MOST 1048576: true; the input reads as it did. -/
def fnExactSealUptoRow : OpenClaim := { program := "ytjgojfdninlcbaa", sum := "d905546f5be4bd396f2fb66a78b437aaf135d736252f02a5398a762bff5c3eed", func := "loop.example/g00678/laws.FnExactSeal", spec := "fnExactSeal", apart := false, narrowed := true }
def FnExactSealUptoSaid : Prop := fnExactSealUptoRow.holds Try.pinned (OpenSpec.upto fnExactSealSpec)

/-- 'laws.FnExactCrcMore', WHERE WHAT IT READS IS OF BULK AT MOST 1048576: true; the input reads as it did. -/
def fnExactCrcMoreUptoRow : OpenClaim := { program := "ytjgojfdninlcbaa", sum := "d905546f5be4bd396f2fb66a78b437aaf135d736252f02a5398a762bff5c3eed", func := "loop.example/g00678/laws.FnExactCrcMore", spec := "fnExactCrcMore", apart := false, narrowed := true }
def FnExactCrcMoreUptoSaid : Prop := fnExactCrcMoreUptoRow.holds Try.pinned (OpenSpec.upto fnExactCrcMoreSpec)

/-- 'laws.FnExactFactJoin', WHERE WHAT IT READS IS OF BULK AT MOST 1048576: true; the input reads as it did. -/
def fnExactFactJoinUptoRow : OpenClaim := { program := "ytjgojfdninlcbaa", sum := "d905546f5be4bd396f2fb66a78b437aaf135d736252f02a5398a762bff5c3eed", func := "loop.example/g00678/laws.FnExactFactJoin", spec := "fnExactFactJoin", apart := false, narrowed := true }
def FnExactFactJoinUptoSaid : Prop := fnExactFactJoinUptoRow.holds Try.pinned (OpenSpec.upto fnExactFactJoinSpec)

end Rows
end Go.Proofs.Ytjgojfdninlcbaa
