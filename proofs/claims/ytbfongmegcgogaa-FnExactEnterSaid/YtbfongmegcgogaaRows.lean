/-
  No cell of these rows narrows 'for every input' (looked for: loops, veiled, ifaces, maps, wideKeys, modest, calm, conditions, laid).
  DERIVED. THE GIVEN ROWS OF THIS SEAT. 10 by the template 'for every input the law returns true; each argument reads behind the call as it read before'; 0 by the template 'total and deterministic' (their statements: YtbfongmegcgogaaTotals.lean).
  GIVEN WITH THE SEED: the statements are not yours to turn. If you find one false, say at which input.
  Laid BY PROGRAM, IN A SANDBOX (cutbox-rows.mjs): the forced cells as the released guide's own fill.sh prints them over the translation b47e65d4115c5708… (all of the seat's roots in one cut). By AI agents, Wed Nov 11 2026. No macro, syntax, notation, axiom, sorry.
-/
import Derived.Test.YtbfongmegcgogaaChecked
import GoSem.Claim
import GoSem.ClaimJoined
import GoSem.ClaimMapViews
import Derived.JoinedTies
import Derived.KernelRfl
namespace Go.Proofs.Ytbfongmegcgogaa
/- THE CELL 'sum', in the pinned program and in every row, IS THE sha256 OF THE DUMP (.gsa) THAT YtbfongmegcgogaaProg.lean LOADS. Nothing in Lean hashes anything: it is a label: what it is worth is what the hold of that sum in a sandbox is worth. -/
noncomputable def Try.pinned : Pinned := { name := "ytbfongmegcgogaa", sum := "b47e65d4115c57082245307e02f4a8d32c013aab52aad25672c82c9853d7eb34", checked := Try.checked }
namespace Rows
def none {H : Type} : Left H := { results := [], args := [] }

/-- 'laws.FnExactWindowOk': WHATEVER THE INPUT: true; the input reads as it did. -/
def fnExactWindowOkSpec : ChangeSpec := { name := "fnExactWindowOk", fn := fun _ => fun
  | [d] => { results := [.lit (.bool true)], args := [d] }
  | _ => none }
def fnExactWindowOkRow : OpenClaim := { program := "ytbfongmegcgogaa", sum := "b47e65d4115c57082245307e02f4a8d32c013aab52aad25672c82c9853d7eb34", func := "loop.example/g00076/laws.FnExactWindowOk", spec := "fnExactWindowOk", apart := false }
def FnExactWindowOkSaid : Prop := fnExactWindowOkRow.holds Try.pinned (OpenSpec.ofChange fnExactWindowOkSpec)

/-- ITS FALSE NEIGHBOUR: 'it returns false'. Refute it at one input. -/
def fnExactWindowOkWrong : ChangeSpec := { name := "fnExactWindowOk", fn := fun _ => fun
  | [d] => { results := [.lit (.bool false)], args := [d] }
  | _ => none }
def FnExactWindowOkWrongFalsely : Prop := fnExactWindowOkRow.holds Try.pinned (OpenSpec.ofChange fnExactWindowOkWrong)

/-- 'laws.FnExactHealthOk': WHATEVER THE INPUT: true; the input reads as it did. -/
def fnExactHealthOkSpec : ChangeSpec := { name := "fnExactHealthOk", fn := fun _ => fun
  | [d] => { results := [.lit (.bool true)], args := [d] }
  | _ => none }
def fnExactHealthOkRow : OpenClaim := { program := "ytbfongmegcgogaa", sum := "b47e65d4115c57082245307e02f4a8d32c013aab52aad25672c82c9853d7eb34", func := "loop.example/g00076/laws.FnExactHealthOk", spec := "fnExactHealthOk", apart := false }
def FnExactHealthOkSaid : Prop := fnExactHealthOkRow.holds Try.pinned (OpenSpec.ofChange fnExactHealthOkSpec)

/-- ITS FALSE NEIGHBOUR: 'it returns false'. Refute it at one input. -/
def fnExactHealthOkWrong : ChangeSpec := { name := "fnExactHealthOk", fn := fun _ => fun
  | [d] => { results := [.lit (.bool false)], args := [d] }
  | _ => none }
def FnExactHealthOkWrongFalsely : Prop := fnExactHealthOkRow.holds Try.pinned (OpenSpec.ofChange fnExactHealthOkWrong)

/-- 'laws.FnExactPolicyOk': WHATEVER THE INPUT: true; the input reads as it did. -/
def fnExactPolicyOkSpec : ChangeSpec := { name := "fnExactPolicyOk", fn := fun _ => fun
  | [d] => { results := [.lit (.bool true)], args := [d] }
  | _ => none }
def fnExactPolicyOkRow : OpenClaim := { program := "ytbfongmegcgogaa", sum := "b47e65d4115c57082245307e02f4a8d32c013aab52aad25672c82c9853d7eb34", func := "loop.example/g00076/laws.FnExactPolicyOk", spec := "fnExactPolicyOk", apart := false }
def FnExactPolicyOkSaid : Prop := fnExactPolicyOkRow.holds Try.pinned (OpenSpec.ofChange fnExactPolicyOkSpec)

/-- ITS FALSE NEIGHBOUR: 'it returns false'. Refute it at one input. -/
def fnExactPolicyOkWrong : ChangeSpec := { name := "fnExactPolicyOk", fn := fun _ => fun
  | [d] => { results := [.lit (.bool false)], args := [d] }
  | _ => none }
def FnExactPolicyOkWrongFalsely : Prop := fnExactPolicyOkRow.holds Try.pinned (OpenSpec.ofChange fnExactPolicyOkWrong)

/-- 'laws.FnExactChanOk': WHATEVER THE INPUT: true; the input reads as it did. -/
def fnExactChanOkSpec : ChangeSpec := { name := "fnExactChanOk", fn := fun _ => fun
  | [d] => { results := [.lit (.bool true)], args := [d] }
  | _ => none }
def fnExactChanOkRow : OpenClaim := { program := "ytbfongmegcgogaa", sum := "b47e65d4115c57082245307e02f4a8d32c013aab52aad25672c82c9853d7eb34", func := "loop.example/g00076/laws.FnExactChanOk", spec := "fnExactChanOk", apart := false }
def FnExactChanOkSaid : Prop := fnExactChanOkRow.holds Try.pinned (OpenSpec.ofChange fnExactChanOkSpec)

/-- ITS FALSE NEIGHBOUR: 'it returns false'. Refute it at one input. -/
def fnExactChanOkWrong : ChangeSpec := { name := "fnExactChanOk", fn := fun _ => fun
  | [d] => { results := [.lit (.bool false)], args := [d] }
  | _ => none }
def FnExactChanOkWrongFalsely : Prop := fnExactChanOkRow.holds Try.pinned (OpenSpec.ofChange fnExactChanOkWrong)

/-- 'laws.FnExactApart': WHATEVER THE INPUT: true; the input reads as it did. -/
def fnExactApartSpec : ChangeSpec := { name := "fnExactApart", fn := fun _ => fun
  | [d1, d2] => { results := [.lit (.bool true)], args := [d1, d2] }
  | _ => none }
def fnExactApartRow : OpenClaim := { program := "ytbfongmegcgogaa", sum := "b47e65d4115c57082245307e02f4a8d32c013aab52aad25672c82c9853d7eb34", func := "loop.example/g00076/laws.FnExactApart", spec := "fnExactApart", apart := false }
def FnExactApartSaid : Prop := fnExactApartRow.holds Try.pinned (OpenSpec.ofChange fnExactApartSpec)

/-- ITS FALSE NEIGHBOUR: 'it returns false'. Refute it at one input. -/
def fnExactApartWrong : ChangeSpec := { name := "fnExactApart", fn := fun _ => fun
  | [d1, d2] => { results := [.lit (.bool false)], args := [d1, d2] }
  | _ => none }
def FnExactApartWrongFalsely : Prop := fnExactApartRow.holds Try.pinned (OpenSpec.ofChange fnExactApartWrong)

/-- 'laws.FnExactTaken': WHATEVER THE INPUT: true; the input reads as it did. -/
def fnExactTakenSpec : ChangeSpec := { name := "fnExactTaken", fn := fun _ => fun
  | [d1, d2, d3] => { results := [.lit (.bool true)], args := [d1, d2, d3] }
  | _ => none }
def fnExactTakenRow : OpenClaim := { program := "ytbfongmegcgogaa", sum := "b47e65d4115c57082245307e02f4a8d32c013aab52aad25672c82c9853d7eb34", func := "loop.example/g00076/laws.FnExactTaken", spec := "fnExactTaken", apart := false }
def FnExactTakenSaid : Prop := fnExactTakenRow.holds Try.pinned (OpenSpec.ofChange fnExactTakenSpec)

/-- ITS FALSE NEIGHBOUR: 'it returns false'. Refute it at one input. -/
def fnExactTakenWrong : ChangeSpec := { name := "fnExactTaken", fn := fun _ => fun
  | [d1, d2, d3] => { results := [.lit (.bool false)], args := [d1, d2, d3] }
  | _ => none }
def FnExactTakenWrongFalsely : Prop := fnExactTakenRow.holds Try.pinned (OpenSpec.ofChange fnExactTakenWrong)

/-- 'laws.FnExactOperator': WHATEVER THE INPUT: true; the input reads as it did. -/
def fnExactOperatorSpec : ChangeSpec := { name := "fnExactOperator", fn := fun _ => fun
  | [d] => { results := [.lit (.bool true)], args := [d] }
  | _ => none }
def fnExactOperatorRow : OpenClaim := { program := "ytbfongmegcgogaa", sum := "b47e65d4115c57082245307e02f4a8d32c013aab52aad25672c82c9853d7eb34", func := "loop.example/g00076/laws.FnExactOperator", spec := "fnExactOperator", apart := false }
def FnExactOperatorSaid : Prop := fnExactOperatorRow.holds Try.pinned (OpenSpec.ofChange fnExactOperatorSpec)

/-- ITS FALSE NEIGHBOUR: 'it returns false'. Refute it at one input. -/
def fnExactOperatorWrong : ChangeSpec := { name := "fnExactOperator", fn := fun _ => fun
  | [d] => { results := [.lit (.bool false)], args := [d] }
  | _ => none }
def FnExactOperatorWrongFalsely : Prop := fnExactOperatorRow.holds Try.pinned (OpenSpec.ofChange fnExactOperatorWrong)

/-- 'laws.FnExactLeave': WHATEVER THE INPUT: true; the input reads as it did. -/
def fnExactLeaveSpec : ChangeSpec := { name := "fnExactLeave", fn := fun _ => fun
  | [d] => { results := [.lit (.bool true)], args := [d] }
  | _ => none }
def fnExactLeaveRow : OpenClaim := { program := "ytbfongmegcgogaa", sum := "b47e65d4115c57082245307e02f4a8d32c013aab52aad25672c82c9853d7eb34", func := "loop.example/g00076/laws.FnExactLeave", spec := "fnExactLeave", apart := false }
def FnExactLeaveSaid : Prop := fnExactLeaveRow.holds Try.pinned (OpenSpec.ofChange fnExactLeaveSpec)

/-- ITS FALSE NEIGHBOUR: 'it returns false'. Refute it at one input. -/
def fnExactLeaveWrong : ChangeSpec := { name := "fnExactLeave", fn := fun _ => fun
  | [d] => { results := [.lit (.bool false)], args := [d] }
  | _ => none }
def FnExactLeaveWrongFalsely : Prop := fnExactLeaveRow.holds Try.pinned (OpenSpec.ofChange fnExactLeaveWrong)

/-- 'laws.FnExactHold': WHATEVER THE INPUT: true; the input reads as it did. -/
def fnExactHoldSpec : ChangeSpec := { name := "fnExactHold", fn := fun _ => fun
  | [d1, d2] => { results := [.lit (.bool true)], args := [d1, d2] }
  | _ => none }
def fnExactHoldRow : OpenClaim := { program := "ytbfongmegcgogaa", sum := "b47e65d4115c57082245307e02f4a8d32c013aab52aad25672c82c9853d7eb34", func := "loop.example/g00076/laws.FnExactHold", spec := "fnExactHold", apart := false }
def FnExactHoldSaid : Prop := fnExactHoldRow.holds Try.pinned (OpenSpec.ofChange fnExactHoldSpec)

/-- ITS FALSE NEIGHBOUR: 'it returns false'. Refute it at one input. -/
def fnExactHoldWrong : ChangeSpec := { name := "fnExactHold", fn := fun _ => fun
  | [d1, d2] => { results := [.lit (.bool false)], args := [d1, d2] }
  | _ => none }
def FnExactHoldWrongFalsely : Prop := fnExactHoldRow.holds Try.pinned (OpenSpec.ofChange fnExactHoldWrong)

/-- 'laws.FnExactEnter': WHATEVER THE INPUT: true; the input reads as it did. -/
def fnExactEnterSpec : ChangeSpec := { name := "fnExactEnter", fn := fun _ => fun
  | [d1, d2, d3] => { results := [.lit (.bool true)], args := [d1, d2, d3] }
  | _ => none }
def fnExactEnterRow : OpenClaim := { program := "ytbfongmegcgogaa", sum := "b47e65d4115c57082245307e02f4a8d32c013aab52aad25672c82c9853d7eb34", func := "loop.example/g00076/laws.FnExactEnter", spec := "fnExactEnter", apart := false }
def FnExactEnterSaid : Prop := fnExactEnterRow.holds Try.pinned (OpenSpec.ofChange fnExactEnterSpec)

/-- ITS FALSE NEIGHBOUR: 'it returns false'. Refute it at one input. -/
def fnExactEnterWrong : ChangeSpec := { name := "fnExactEnter", fn := fun _ => fun
  | [d1, d2, d3] => { results := [.lit (.bool false)], args := [d1, d2, d3] }
  | _ => none }
def FnExactEnterWrongFalsely : Prop := fnExactEnterRow.holds Try.pinned (OpenSpec.ofChange fnExactEnterWrong)

/- THE SECOND FORM. 'bulk': how many values and letters a reading holds, each counted each time it is reached (what is shared counts as often as it is met; a slice's spare places count too). A statement '..UptoSaid' is the law's where the arguments, and the package variables that the reading takes, are together of bulk at most 1048576: NARROWER than '..Said'. Prove '..Said' where nothing that the law and all that it calls make is longer than what came in: it says more and counts as full. Else prove '..UptoSaid'. A law counts once. -/
mutual
def uptoBulk {H : Type} : DataW H → Nat
  | .lit (.string bytes) => bytes.length + 1
  | .lit _ => 1
  | .nil => 1
  | .ptr d => uptoBulk d + 1
  | .slice elems spare => uptoBulkAll elems + uptoBulkAll spare + 1
  | .agg parts => uptoBulkAll parts + 1
  | .iface _ d => uptoBulk d + 1
  | .map entries => uptoBulkEntries entries + 1
  | .held _ => 1
def uptoBulkAll {H : Type} : List (DataW H) → Nat
  | [] => 0
  | d :: r => uptoBulk d + uptoBulkAll r
def uptoBulkEntries {H : Type} : List (Lit × DataW H) → Nat
  | [] => 0
  | x :: r => uptoBulkEntry x + uptoBulkEntries r
def uptoBulkEntry {H : Type} : Lit × DataW H → Nat
  | (.string bytes, d) => bytes.length + uptoBulk d + 1
  | (_, d) => uptoBulk d + 1
 end
def uptoSmall : (H : Type) → List (DataW H) → Bool := fun _ ds => decide (uptoBulkAll ds ≤ 1048576)
def OpenSpec.upto (s : _root_.Go.ChangeSpec) : _root_.Go.OpenSpec := { _root_.Go.OpenSpec.ofChange s with cond := some uptoSmall }

/-- 'laws.FnExactWindowOk', WHERE WHAT IT READS IS OF BULK AT MOST 1048576: true; the input reads as it did. -/
def fnExactWindowOkUptoRow : OpenClaim := { program := "ytbfongmegcgogaa", sum := "b47e65d4115c57082245307e02f4a8d32c013aab52aad25672c82c9853d7eb34", func := "loop.example/g00076/laws.FnExactWindowOk", spec := "fnExactWindowOk", apart := false, narrowed := true }
def FnExactWindowOkUptoSaid : Prop := fnExactWindowOkUptoRow.holds Try.pinned (OpenSpec.upto fnExactWindowOkSpec)

/-- 'laws.FnExactHealthOk', WHERE WHAT IT READS IS OF BULK AT MOST 1048576: true; the input reads as it did. -/
def fnExactHealthOkUptoRow : OpenClaim := { program := "ytbfongmegcgogaa", sum := "b47e65d4115c57082245307e02f4a8d32c013aab52aad25672c82c9853d7eb34", func := "loop.example/g00076/laws.FnExactHealthOk", spec := "fnExactHealthOk", apart := false, narrowed := true }
def FnExactHealthOkUptoSaid : Prop := fnExactHealthOkUptoRow.holds Try.pinned (OpenSpec.upto fnExactHealthOkSpec)

/-- 'laws.FnExactPolicyOk', WHERE WHAT IT READS IS OF BULK AT MOST 1048576: true; the input reads as it did. -/
def fnExactPolicyOkUptoRow : OpenClaim := { program := "ytbfongmegcgogaa", sum := "b47e65d4115c57082245307e02f4a8d32c013aab52aad25672c82c9853d7eb34", func := "loop.example/g00076/laws.FnExactPolicyOk", spec := "fnExactPolicyOk", apart := false, narrowed := true }
def FnExactPolicyOkUptoSaid : Prop := fnExactPolicyOkUptoRow.holds Try.pinned (OpenSpec.upto fnExactPolicyOkSpec)

/-- 'laws.FnExactChanOk', WHERE WHAT IT READS IS OF BULK AT MOST 1048576: true; the input reads as it did. -/
def fnExactChanOkUptoRow : OpenClaim := { program := "ytbfongmegcgogaa", sum := "b47e65d4115c57082245307e02f4a8d32c013aab52aad25672c82c9853d7eb34", func := "loop.example/g00076/laws.FnExactChanOk", spec := "fnExactChanOk", apart := false, narrowed := true }
def FnExactChanOkUptoSaid : Prop := fnExactChanOkUptoRow.holds Try.pinned (OpenSpec.upto fnExactChanOkSpec)

/-- 'laws.FnExactApart', WHERE WHAT IT READS IS OF BULK AT MOST 1048576: true; the input reads as it did. -/
def fnExactApartUptoRow : OpenClaim := { program := "ytbfongmegcgogaa", sum := "b47e65d4115c57082245307e02f4a8d32c013aab52aad25672c82c9853d7eb34", func := "loop.example/g00076/laws.FnExactApart", spec := "fnExactApart", apart := false, narrowed := true }
def FnExactApartUptoSaid : Prop := fnExactApartUptoRow.holds Try.pinned (OpenSpec.upto fnExactApartSpec)

/-- 'laws.FnExactTaken', WHERE WHAT IT READS IS OF BULK AT MOST 1048576: true; the input reads as it did. -/
def fnExactTakenUptoRow : OpenClaim := { program := "ytbfongmegcgogaa", sum := "b47e65d4115c57082245307e02f4a8d32c013aab52aad25672c82c9853d7eb34", func := "loop.example/g00076/laws.FnExactTaken", spec := "fnExactTaken", apart := false, narrowed := true }
def FnExactTakenUptoSaid : Prop := fnExactTakenUptoRow.holds Try.pinned (OpenSpec.upto fnExactTakenSpec)

/-- 'laws.FnExactOperator', WHERE WHAT IT READS IS OF BULK AT MOST 1048576: true; the input reads as it did. -/
def fnExactOperatorUptoRow : OpenClaim := { program := "ytbfongmegcgogaa", sum := "b47e65d4115c57082245307e02f4a8d32c013aab52aad25672c82c9853d7eb34", func := "loop.example/g00076/laws.FnExactOperator", spec := "fnExactOperator", apart := false, narrowed := true }
def FnExactOperatorUptoSaid : Prop := fnExactOperatorUptoRow.holds Try.pinned (OpenSpec.upto fnExactOperatorSpec)

/-- 'laws.FnExactLeave', WHERE WHAT IT READS IS OF BULK AT MOST 1048576: true; the input reads as it did. -/
def fnExactLeaveUptoRow : OpenClaim := { program := "ytbfongmegcgogaa", sum := "b47e65d4115c57082245307e02f4a8d32c013aab52aad25672c82c9853d7eb34", func := "loop.example/g00076/laws.FnExactLeave", spec := "fnExactLeave", apart := false, narrowed := true }
def FnExactLeaveUptoSaid : Prop := fnExactLeaveUptoRow.holds Try.pinned (OpenSpec.upto fnExactLeaveSpec)

/-- 'laws.FnExactHold', WHERE WHAT IT READS IS OF BULK AT MOST 1048576: true; the input reads as it did. -/
def fnExactHoldUptoRow : OpenClaim := { program := "ytbfongmegcgogaa", sum := "b47e65d4115c57082245307e02f4a8d32c013aab52aad25672c82c9853d7eb34", func := "loop.example/g00076/laws.FnExactHold", spec := "fnExactHold", apart := false, narrowed := true }
def FnExactHoldUptoSaid : Prop := fnExactHoldUptoRow.holds Try.pinned (OpenSpec.upto fnExactHoldSpec)

/-- 'laws.FnExactEnter', WHERE WHAT IT READS IS OF BULK AT MOST 1048576: true; the input reads as it did. -/
def fnExactEnterUptoRow : OpenClaim := { program := "ytbfongmegcgogaa", sum := "b47e65d4115c57082245307e02f4a8d32c013aab52aad25672c82c9853d7eb34", func := "loop.example/g00076/laws.FnExactEnter", spec := "fnExactEnter", apart := false, narrowed := true }
def FnExactEnterUptoSaid : Prop := fnExactEnterUptoRow.holds Try.pinned (OpenSpec.upto fnExactEnterSpec)

end Rows
end Go.Proofs.Ytbfongmegcgogaa
