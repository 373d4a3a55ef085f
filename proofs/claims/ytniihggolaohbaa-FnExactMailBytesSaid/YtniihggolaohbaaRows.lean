/-
  No cell of these rows narrows 'for every input' (looked for: loops, veiled, ifaces, maps, wideKeys, modest, calm, conditions, laid).
  DERIVED. THE GIVEN ROWS OF THIS SEAT. 5 by the template 'for every input the law returns true; each argument reads behind the call as it read before'; 0 by the template 'total and deterministic' (their statements: YtniihggolaohbaaTotals.lean).
  GIVEN WITH THE SEED: the statements are not yours to turn. If you find one false, say at which input.
  Laid BY PROGRAM, IN A SANDBOX (cutbox-rows.mjs): the forced cells as the released guide's own fill.sh prints them over the translation 350249bc9aed4abe… (all of the seat's roots in one cut). By AI agents, Wed Nov 11 2026. No macro, syntax, notation, axiom, sorry.
-/
import Derived.Test.YtniihggolaohbaaChecked
import GoSem.Claim
import GoSem.ClaimJoined
import GoSem.ClaimMapViews
import Derived.JoinedTies
import Derived.KernelRfl
namespace Go.Proofs.Ytniihggolaohbaa
/- THE CELL 'sum', in the pinned program and in every row, IS THE sha256 OF THE DUMP (.gsa) THAT YtniihggolaohbaaProg.lean LOADS. Nothing in Lean hashes anything: it is a label: what it is worth is what the hold of that sum in a sandbox is worth. -/
noncomputable def Try.pinned : Pinned := { name := "ytniihggolaohbaa", sum := "350249bc9aed4abecc356e12118e8d29c58b33981da558d8b603e216ef9d0ac0", checked := Try.checked }
namespace Rows
def none {H : Type} : Left H := { results := [], args := [] }

/-- 'laws.FnExactMailRight': WHATEVER THE INPUT: true; the input reads as it did. -/
def fnExactMailRightSpec : ChangeSpec := { name := "fnExactMailRight", fn := fun _ => fun
  | [d] => { results := [.lit (.bool true)], args := [d] }
  | _ => none }
def fnExactMailRightRow : OpenClaim := { program := "ytniihggolaohbaa", sum := "350249bc9aed4abecc356e12118e8d29c58b33981da558d8b603e216ef9d0ac0", func := "loop.example/g00678/laws.FnExactMailRight", spec := "fnExactMailRight", apart := false }
def FnExactMailRightSaid : Prop := fnExactMailRightRow.holds Try.pinned (OpenSpec.ofChange fnExactMailRightSpec)

/-- ITS FALSE NEIGHBOUR: 'it returns false'. Refute it at one input. -/
def fnExactMailRightWrong : ChangeSpec := { name := "fnExactMailRight", fn := fun _ => fun
  | [d] => { results := [.lit (.bool false)], args := [d] }
  | _ => none }
def FnExactMailRightWrongFalsely : Prop := fnExactMailRightRow.holds Try.pinned (OpenSpec.ofChange fnExactMailRightWrong)

/-- 'laws.FnExactMailBytes': WHATEVER THE INPUT: true; the input reads as it did. -/
def fnExactMailBytesSpec : ChangeSpec := { name := "fnExactMailBytes", fn := fun _ => fun
  | [d] => { results := [.lit (.bool true)], args := [d] }
  | _ => none }
def fnExactMailBytesRow : OpenClaim := { program := "ytniihggolaohbaa", sum := "350249bc9aed4abecc356e12118e8d29c58b33981da558d8b603e216ef9d0ac0", func := "loop.example/g00678/laws.FnExactMailBytes", spec := "fnExactMailBytes", apart := false }
def FnExactMailBytesSaid : Prop := fnExactMailBytesRow.holds Try.pinned (OpenSpec.ofChange fnExactMailBytesSpec)

/-- ITS FALSE NEIGHBOUR: 'it returns false'. Refute it at one input. -/
def fnExactMailBytesWrong : ChangeSpec := { name := "fnExactMailBytes", fn := fun _ => fun
  | [d] => { results := [.lit (.bool false)], args := [d] }
  | _ => none }
def FnExactMailBytesWrongFalsely : Prop := fnExactMailBytesRow.holds Try.pinned (OpenSpec.ofChange fnExactMailBytesWrong)

/-- 'laws.FnExactMailRead': WHATEVER THE INPUT: true; the input reads as it did. -/
def fnExactMailReadSpec : ChangeSpec := { name := "fnExactMailRead", fn := fun _ => fun
  | [d] => { results := [.lit (.bool true)], args := [d] }
  | _ => none }
def fnExactMailReadRow : OpenClaim := { program := "ytniihggolaohbaa", sum := "350249bc9aed4abecc356e12118e8d29c58b33981da558d8b603e216ef9d0ac0", func := "loop.example/g00678/laws.FnExactMailRead", spec := "fnExactMailRead", unfollowed := true, recurses := true, apart := false }
def FnExactMailReadSaid : Prop := fnExactMailReadRow.holds Try.pinned (OpenSpec.ofChange fnExactMailReadSpec)

/-- ITS FALSE NEIGHBOUR: 'it returns false'. Refute it at one input. -/
def fnExactMailReadWrong : ChangeSpec := { name := "fnExactMailRead", fn := fun _ => fun
  | [d] => { results := [.lit (.bool false)], args := [d] }
  | _ => none }
def FnExactMailReadWrongFalsely : Prop := fnExactMailReadRow.holds Try.pinned (OpenSpec.ofChange fnExactMailReadWrong)

/-- 'laws.FnMail': WHATEVER THE INPUT: true; the input reads as it did. -/
def fnMailSpec : ChangeSpec := { name := "fnMail", fn := fun _ => fun
  | [d1, d2] => { results := [.lit (.bool true)], args := [d1, d2] }
  | _ => none }
def fnMailRow : OpenClaim := { program := "ytniihggolaohbaa", sum := "350249bc9aed4abecc356e12118e8d29c58b33981da558d8b603e216ef9d0ac0", func := "loop.example/g00678/laws.FnMail", spec := "fnMail", unfollowed := true, recurses := true, apart := false }
def FnMailSaid : Prop := fnMailRow.holds Try.pinned (OpenSpec.ofChange fnMailSpec)

/-- ITS FALSE NEIGHBOUR: 'it returns false'. Refute it at one input. -/
def fnMailWrong : ChangeSpec := { name := "fnMail", fn := fun _ => fun
  | [d1, d2] => { results := [.lit (.bool false)], args := [d1, d2] }
  | _ => none }
def FnMailWrongFalsely : Prop := fnMailRow.holds Try.pinned (OpenSpec.ofChange fnMailWrong)

/-- 'laws.FnExactNodeNew': WHATEVER THE INPUT: true; the input reads as it did. -/
def fnExactNodeNewSpec : ChangeSpec := { name := "fnExactNodeNew", fn := fun _ => fun
  | [d1, d2, d3, d4] => { results := [.lit (.bool true)], args := [d1, d2, d3, d4] }
  | _ => none }
def fnExactNodeNewRow : OpenClaim := { program := "ytniihggolaohbaa", sum := "350249bc9aed4abecc356e12118e8d29c58b33981da558d8b603e216ef9d0ac0", func := "loop.example/g00678/laws.FnExactNodeNew", spec := "fnExactNodeNew", apart := false }
def FnExactNodeNewSaid : Prop := fnExactNodeNewRow.holds Try.pinned (OpenSpec.ofChange fnExactNodeNewSpec)

/-- ITS FALSE NEIGHBOUR: 'it returns false'. Refute it at one input. -/
def fnExactNodeNewWrong : ChangeSpec := { name := "fnExactNodeNew", fn := fun _ => fun
  | [d1, d2, d3, d4] => { results := [.lit (.bool false)], args := [d1, d2, d3, d4] }
  | _ => none }
def FnExactNodeNewWrongFalsely : Prop := fnExactNodeNewRow.holds Try.pinned (OpenSpec.ofChange fnExactNodeNewWrong)

/- THE SECOND FORM. 'bulk': how many values and letters a reading holds, each counted each time it is reached (what is shared counts as often as it is met; a slice's spare places count too). A statement '..UptoSaid' is the law's where the arguments, and the package variables that the reading takes, are together of bulk at most 1048576: NARROWER than '..Said'. Prove '..Said' where nothing that the law and all that it calls make is longer than what came in: it says more and counts as full. Else prove '..UptoSaid'. A law counts once. -/
mutual
def uptoBulk {H : Type} : DataW H → Nat
  | .lit (.string bytes) => bytes.length + 1
  | .lit _ => 1
  | .nil => 1
  | .ptr d => uptoBulk d + 1
  | .slice elems spare => uptoBulkAll elems + uptoBulkAll spare + 1
  | .agg parts => uptoBulkAll parts + 1
  | .iface _ d => uptoBulk d + 1
  | .map entries => uptoBulkEntries entries + 1
  | .held _ => 1
def uptoBulkAll {H : Type} : List (DataW H) → Nat
  | [] => 0
  | d :: r => uptoBulk d + uptoBulkAll r
def uptoBulkEntries {H : Type} : List (Lit × DataW H) → Nat
  | [] => 0
  | x :: r => uptoBulkEntry x + uptoBulkEntries r
def uptoBulkEntry {H : Type} : Lit × DataW H → Nat
  | (.string bytes, d) => bytes.length + uptoBulk d + 1
  | (_, d) => uptoBulk d + 1
 end
def uptoSmall : (H : Type) → List (DataW H) → Bool := fun _ ds => decide (uptoBulkAll ds ≤ 1048576)
def OpenSpec.upto (s : _root_.Go.ChangeSpec) : _root_.Go.OpenSpec := { _root_.Go.OpenSpec.ofChange s with cond := some uptoSmall }

/-- 'laws.FnExactMailRight', WHERE WHAT IT READS IS OF BULK AT MOST 1048576: true; the input reads as it did. -/
def fnExactMailRightUptoRow : OpenClaim := { program := "ytniihggolaohbaa", sum := "350249bc9aed4abecc356e12118e8d29c58b33981da558d8b603e216ef9d0ac0", func := "loop.example/g00678/laws.FnExactMailRight", spec := "fnExactMailRight", apart := false, narrowed := true }
def FnExactMailRightUptoSaid : Prop := fnExactMailRightUptoRow.holds Try.pinned (OpenSpec.upto fnExactMailRightSpec)

/-- 'laws.FnExactMailBytes', WHERE WHAT IT READS IS OF BULK AT MOST 1048576: true; the input reads as it did. -/
def fnExactMailBytesUptoRow : OpenClaim := { program := "ytniihggolaohbaa", sum := "350249bc9aed4abecc356e12118e8d29c58b33981da558d8b603e216ef9d0ac0", func := "loop.example/g00678/laws.FnExactMailBytes", spec := "fnExactMailBytes", apart := false, narrowed := true }
def FnExactMailBytesUptoSaid : Prop := fnExactMailBytesUptoRow.holds Try.pinned (OpenSpec.upto fnExactMailBytesSpec)

/-- 'laws.FnExactMailRead', WHERE WHAT IT READS IS OF BULK AT MOST 1048576: true; the input reads as it did. -/
def fnExactMailReadUptoRow : OpenClaim := { program := "ytniihggolaohbaa", sum := "350249bc9aed4abecc356e12118e8d29c58b33981da558d8b603e216ef9d0ac0", func := "loop.example/g00678/laws.FnExactMailRead", spec := "fnExactMailRead", unfollowed := true, recurses := true, apart := false, narrowed := true }
def FnExactMailReadUptoSaid : Prop := fnExactMailReadUptoRow.holds Try.pinned (OpenSpec.upto fnExactMailReadSpec)

/-- 'laws.FnMail', WHERE WHAT IT READS IS OF BULK AT MOST 1048576: true; the input reads as it did. -/
def fnMailUptoRow : OpenClaim := { program := "ytniihggolaohbaa", sum := "350249bc9aed4abecc356e12118e8d29c58b33981da558d8b603e216ef9d0ac0", func := "loop.example/g00678/laws.FnMail", spec := "fnMail", unfollowed := true, recurses := true, apart := false, narrowed := true }
def FnMailUptoSaid : Prop := fnMailUptoRow.holds Try.pinned (OpenSpec.upto fnMailSpec)

/-- 'laws.FnExactNodeNew', WHERE WHAT IT READS IS OF BULK AT MOST 1048576: true; the input reads as it did. -/
def fnExactNodeNewUptoRow : OpenClaim := { program := "ytniihggolaohbaa", sum := "350249bc9aed4abecc356e12118e8d29c58b33981da558d8b603e216ef9d0ac0", func := "loop.example/g00678/laws.FnExactNodeNew", spec := "fnExactNodeNew", apart := false, narrowed := true }
def FnExactNodeNewUptoSaid : Prop := fnExactNodeNewUptoRow.holds Try.pinned (OpenSpec.upto fnExactNodeNewSpec)

end Rows
end Go.Proofs.Ytniihggolaohbaa
