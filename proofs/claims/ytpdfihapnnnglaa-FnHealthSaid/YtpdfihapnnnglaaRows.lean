/-
  No cell of these rows narrows 'for every input' (looked for: loops, veiled, ifaces, maps, wideKeys, modest, calm, conditions, laid).
  DERIVED. THE GIVEN ROWS OF THIS SEAT. 7 by the template 'for every input the law returns true; each argument reads behind the call as it read before'; 0 by the template 'total and deterministic' (their statements: YtpdfihapnnnglaaTotals.lean).
  GIVEN WITH THE SEED: the statements are not yours to turn. If you find one false, say at which input.
  Laid BY PROGRAM, IN A SANDBOX (cutbox-rows.mjs): the forced cells as the released guide's own fill.sh prints them over the translation f08292672040e73c… (all of the seat's roots in one cut). By AI agents, Wed Nov 11 2026. No macro, syntax, notation, axiom, sorry.
-/
import Derived.Test.YtpdfihapnnnglaaChecked
import GoSem.Claim
import GoSem.ClaimJoined
import GoSem.ClaimMapViews
import Derived.JoinedTies
import Derived.KernelRfl
namespace Go.Proofs.Ytpdfihapnnnglaa
/- THE CELL 'sum', in the pinned program and in every row, IS THE sha256 OF THE DUMP (.gsa) THAT YtpdfihapnnnglaaProg.lean LOADS. Nothing in Lean hashes anything: it is a label: what it is worth is what the hold of that sum in a sandbox is worth. -/
noncomputable def Try.pinned : Pinned := { name := "ytpdfihapnnnglaa", sum := "f08292672040e73c4038edd9de060d280abc08c1a3796503f93d37dc659260f3", checked := Try.checked }
namespace Rows
def none {H : Type} : Left H := { results := [], args := [] }

/-- 'laws.FnExactCsrWrite': WHATEVER THE INPUT: true; the input reads as it did. -/
def fnExactCsrWriteSpec : ChangeSpec := { name := "fnExactCsrWrite", fn := fun _ => fun
  | [d1, d2, d3] => { results := [.lit (.bool true)], args := [d1, d2, d3] }
  | _ => none }
def fnExactCsrWriteRow : OpenClaim := { program := "ytpdfihapnnnglaa", sum := "f08292672040e73c4038edd9de060d280abc08c1a3796503f93d37dc659260f3", func := "loop.example/g00076/laws.FnExactCsrWrite", spec := "fnExactCsrWrite", apart := false }
def FnExactCsrWriteSaid : Prop := fnExactCsrWriteRow.holds Try.pinned (OpenSpec.ofChange fnExactCsrWriteSpec)

/-- ITS FALSE NEIGHBOUR: 'it returns false'. Refute it at one input. -/
def fnExactCsrWriteWrong : ChangeSpec := { name := "fnExactCsrWrite", fn := fun _ => fun
  | [d1, d2, d3] => { results := [.lit (.bool false)], args := [d1, d2, d3] }
  | _ => none }
def FnExactCsrWriteWrongFalsely : Prop := fnExactCsrWriteRow.holds Try.pinned (OpenSpec.ofChange fnExactCsrWriteWrong)

/-- 'laws.FnExactCsrRead': WHATEVER THE INPUT: true; the input reads as it did. -/
def fnExactCsrReadSpec : ChangeSpec := { name := "fnExactCsrRead", fn := fun _ => fun
  | [d1, d2, d3] => { results := [.lit (.bool true)], args := [d1, d2, d3] }
  | _ => none }
def fnExactCsrReadRow : OpenClaim := { program := "ytpdfihapnnnglaa", sum := "f08292672040e73c4038edd9de060d280abc08c1a3796503f93d37dc659260f3", func := "loop.example/g00076/laws.FnExactCsrRead", spec := "fnExactCsrRead", apart := false }
def FnExactCsrReadSaid : Prop := fnExactCsrReadRow.holds Try.pinned (OpenSpec.ofChange fnExactCsrReadSpec)

/-- ITS FALSE NEIGHBOUR: 'it returns false'. Refute it at one input. -/
def fnExactCsrReadWrong : ChangeSpec := { name := "fnExactCsrRead", fn := fun _ => fun
  | [d1, d2, d3] => { results := [.lit (.bool false)], args := [d1, d2, d3] }
  | _ => none }
def FnExactCsrReadWrongFalsely : Prop := fnExactCsrReadRow.holds Try.pinned (OpenSpec.ofChange fnExactCsrReadWrong)

/-- 'laws.FnExactOnFault': WHATEVER THE INPUT: true; the input reads as it did. -/
def fnExactOnFaultSpec : ChangeSpec := { name := "fnExactOnFault", fn := fun _ => fun
  | [d1, d2, d3] => { results := [.lit (.bool true)], args := [d1, d2, d3] }
  | _ => none }
def fnExactOnFaultRow : OpenClaim := { program := "ytpdfihapnnnglaa", sum := "f08292672040e73c4038edd9de060d280abc08c1a3796503f93d37dc659260f3", func := "loop.example/g00076/laws.FnExactOnFault", spec := "fnExactOnFault", apart := false }
def FnExactOnFaultSaid : Prop := fnExactOnFaultRow.holds Try.pinned (OpenSpec.ofChange fnExactOnFaultSpec)

/-- ITS FALSE NEIGHBOUR: 'it returns false'. Refute it at one input. -/
def fnExactOnFaultWrong : ChangeSpec := { name := "fnExactOnFault", fn := fun _ => fun
  | [d1, d2, d3] => { results := [.lit (.bool false)], args := [d1, d2, d3] }
  | _ => none }
def FnExactOnFaultWrongFalsely : Prop := fnExactOnFaultRow.holds Try.pinned (OpenSpec.ofChange fnExactOnFaultWrong)

/-- 'laws.FnArithmetic': WHATEVER THE INPUT: true; the input reads as it did. -/
def fnArithmeticSpec : ChangeSpec := { name := "fnArithmetic", fn := fun _ => fun
  | [d] => { results := [.lit (.bool true)], args := [d] }
  | _ => none }
def fnArithmeticRow : OpenClaim := { program := "ytpdfihapnnnglaa", sum := "f08292672040e73c4038edd9de060d280abc08c1a3796503f93d37dc659260f3", func := "loop.example/g00076/laws.FnArithmetic", spec := "fnArithmetic", apart := false }
def FnArithmeticSaid : Prop := fnArithmeticRow.holds Try.pinned (OpenSpec.ofChange fnArithmeticSpec)

/-- ITS FALSE NEIGHBOUR: 'it returns false'. Refute it at one input. -/
def fnArithmeticWrong : ChangeSpec := { name := "fnArithmetic", fn := fun _ => fun
  | [d] => { results := [.lit (.bool false)], args := [d] }
  | _ => none }
def FnArithmeticWrongFalsely : Prop := fnArithmeticRow.holds Try.pinned (OpenSpec.ofChange fnArithmeticWrong)

/-- 'laws.FnExactAlu': WHATEVER THE INPUT: true; the input reads as it did. -/
def fnExactAluSpec : ChangeSpec := { name := "fnExactAlu", fn := fun _ => fun
  | [d1, d2, d3] => { results := [.lit (.bool true)], args := [d1, d2, d3] }
  | _ => none }
def fnExactAluRow : OpenClaim := { program := "ytpdfihapnnnglaa", sum := "f08292672040e73c4038edd9de060d280abc08c1a3796503f93d37dc659260f3", func := "loop.example/g00076/laws.FnExactAlu", spec := "fnExactAlu", apart := false }
def FnExactAluSaid : Prop := fnExactAluRow.holds Try.pinned (OpenSpec.ofChange fnExactAluSpec)

/-- ITS FALSE NEIGHBOUR: 'it returns false'. Refute it at one input. -/
def fnExactAluWrong : ChangeSpec := { name := "fnExactAlu", fn := fun _ => fun
  | [d1, d2, d3] => { results := [.lit (.bool false)], args := [d1, d2, d3] }
  | _ => none }
def FnExactAluWrongFalsely : Prop := fnExactAluRow.holds Try.pinned (OpenSpec.ofChange fnExactAluWrong)

/-- 'laws.FnExactHealthRun': WHATEVER THE INPUT: true; the input reads as it did. -/
def fnExactHealthRunSpec : ChangeSpec := { name := "fnExactHealthRun", fn := fun _ => fun
  | [d1, d2] => { results := [.lit (.bool true)], args := [d1, d2] }
  | _ => none }
def fnExactHealthRunRow : OpenClaim := { program := "ytpdfihapnnnglaa", sum := "f08292672040e73c4038edd9de060d280abc08c1a3796503f93d37dc659260f3", func := "loop.example/g00076/laws.FnExactHealthRun", spec := "fnExactHealthRun", apart := false }
def FnExactHealthRunSaid : Prop := fnExactHealthRunRow.holds Try.pinned (OpenSpec.ofChange fnExactHealthRunSpec)

/-- ITS FALSE NEIGHBOUR: 'it returns false'. Refute it at one input. -/
def fnExactHealthRunWrong : ChangeSpec := { name := "fnExactHealthRun", fn := fun _ => fun
  | [d1, d2] => { results := [.lit (.bool false)], args := [d1, d2] }
  | _ => none }
def FnExactHealthRunWrongFalsely : Prop := fnExactHealthRunRow.holds Try.pinned (OpenSpec.ofChange fnExactHealthRunWrong)

/-- 'laws.FnHealth': WHATEVER THE INPUT: true; the input reads as it did. -/
def fnHealthSpec : ChangeSpec := { name := "fnHealth", fn := fun _ => fun
  | [d] => { results := [.lit (.bool true)], args := [d] }
  | _ => none }
def fnHealthRow : OpenClaim := { program := "ytpdfihapnnnglaa", sum := "f08292672040e73c4038edd9de060d280abc08c1a3796503f93d37dc659260f3", func := "loop.example/g00076/laws.FnHealth", spec := "fnHealth", apart := false }
def FnHealthSaid : Prop := fnHealthRow.holds Try.pinned (OpenSpec.ofChange fnHealthSpec)

/-- ITS FALSE NEIGHBOUR: 'it returns false'. Refute it at one input. -/
def fnHealthWrong : ChangeSpec := { name := "fnHealth", fn := fun _ => fun
  | [d] => { results := [.lit (.bool false)], args := [d] }
  | _ => none }
def FnHealthWrongFalsely : Prop := fnHealthRow.holds Try.pinned (OpenSpec.ofChange fnHealthWrong)

/- THE SECOND FORM. 'bulk': how many values and letters a reading holds, each counted each time it is reached (what is shared counts as often as it is met; a slice's spare places count too). A statement '..UptoSaid' is the law's where the arguments, and the package variables that the reading takes, are together of bulk at most 1048576: NARROWER than '..Said'. Prove '..Said' where nothing that the law and all that it calls make is longer than what came in: it says more and counts as full. Else prove '..UptoSaid'. A law counts once. -/
mutual
def uptoBulk {H : Type} : DataW H → Nat
  | .lit (.string bytes) => bytes.length + 1
  | .lit _ => 1
  | .nil => 1
  | .ptr d => uptoBulk d + 1
  | .slice elems spare => uptoBulkAll elems + uptoBulkAll spare + 1
  | .agg parts => uptoBulkAll parts + 1
  | .iface _ d => uptoBulk d + 1
  | .map entries => uptoBulkEntries entries + 1
  | .held _ => 1
def uptoBulkAll {H : Type} : List (DataW H) → Nat
  | [] => 0
  | d :: r => uptoBulk d + uptoBulkAll r
def uptoBulkEntries {H : Type} : List (Lit × DataW H) → Nat
  | [] => 0
  | x :: r => uptoBulkEntry x + uptoBulkEntries r
def uptoBulkEntry {H : Type} : Lit × DataW H → Nat
  | (.string bytes, d) => bytes.length + uptoBulk d + 1
  | (_, d) => uptoBulk d + 1
 end
def uptoSmall : (H : Type) → List (DataW H) → Bool := fun _ ds => decide (uptoBulkAll ds ≤ 1048576)
def OpenSpec.upto (s : _root_.Go.ChangeSpec) : _root_.Go.OpenSpec := { _root_.Go.OpenSpec.ofChange s with cond := some uptoSmall }

/-- 'laws.FnExactCsrWrite', WHERE WHAT IT READS IS OF BULK AT MOST 1048576: true; the input reads as it did. -/
def fnExactCsrWriteUptoRow : OpenClaim := { program := "ytpdfihapnnnglaa", sum := "f08292672040e73c4038edd9de060d280abc08c1a3796503f93d37dc659260f3", func := "loop.example/g00076/laws.FnExactCsrWrite", spec := "fnExactCsrWrite", apart := false, narrowed := true }
def FnExactCsrWriteUptoSaid : Prop := fnExactCsrWriteUptoRow.holds Try.pinned (OpenSpec.upto fnExactCsrWriteSpec)

/-- 'laws.FnExactCsrRead', WHERE WHAT IT READS IS OF BULK AT MOST 1048576: true; the input reads as it did. -/
def fnExactCsrReadUptoRow : OpenClaim := { program := "ytpdfihapnnnglaa", sum := "f08292672040e73c4038edd9de060d280abc08c1a3796503f93d37dc659260f3", func := "loop.example/g00076/laws.FnExactCsrRead", spec := "fnExactCsrRead", apart := false, narrowed := true }
def FnExactCsrReadUptoSaid : Prop := fnExactCsrReadUptoRow.holds Try.pinned (OpenSpec.upto fnExactCsrReadSpec)

/-- 'laws.FnExactOnFault', WHERE WHAT IT READS IS OF BULK AT MOST 1048576: true; the input reads as it did. -/
def fnExactOnFaultUptoRow : OpenClaim := { program := "ytpdfihapnnnglaa", sum := "f08292672040e73c4038edd9de060d280abc08c1a3796503f93d37dc659260f3", func := "loop.example/g00076/laws.FnExactOnFault", spec := "fnExactOnFault", apart := false, narrowed := true }
def FnExactOnFaultUptoSaid : Prop := fnExactOnFaultUptoRow.holds Try.pinned (OpenSpec.upto fnExactOnFaultSpec)

/-- 'laws.FnArithmetic', WHERE WHAT IT READS IS OF BULK AT MOST 1048576: true; the input reads as it did. -/
def fnArithmeticUptoRow : OpenClaim := { program := "ytpdfihapnnnglaa", sum := "f08292672040e73c4038edd9de060d280abc08c1a3796503f93d37dc659260f3", func := "loop.example/g00076/laws.FnArithmetic", spec := "fnArithmetic", apart := false, narrowed := true }
def FnArithmeticUptoSaid : Prop := fnArithmeticUptoRow.holds Try.pinned (OpenSpec.upto fnArithmeticSpec)

/-- 'laws.FnExactAlu', WHERE WHAT IT READS IS OF BULK AT MOST 1048576: true; the input reads as it did. -/
def fnExactAluUptoRow : OpenClaim := { program := "ytpdfihapnnnglaa", sum := "f08292672040e73c4038edd9de060d280abc08c1a3796503f93d37dc659260f3", func := "loop.example/g00076/laws.FnExactAlu", spec := "fnExactAlu", apart := false, narrowed := true }
def FnExactAluUptoSaid : Prop := fnExactAluUptoRow.holds Try.pinned (OpenSpec.upto fnExactAluSpec)

/-- 'laws.FnExactHealthRun', WHERE WHAT IT READS IS OF BULK AT MOST 1048576: true; the input reads as it did. -/
def fnExactHealthRunUptoRow : OpenClaim := { program := "ytpdfihapnnnglaa", sum := "f08292672040e73c4038edd9de060d280abc08c1a3796503f93d37dc659260f3", func := "loop.example/g00076/laws.FnExactHealthRun", spec := "fnExactHealthRun", apart := false, narrowed := true }
def FnExactHealthRunUptoSaid : Prop := fnExactHealthRunUptoRow.holds Try.pinned (OpenSpec.upto fnExactHealthRunSpec)

/-- 'laws.FnHealth', WHERE WHAT IT READS IS OF BULK AT MOST 1048576: true; the input reads as it did. -/
def fnHealthUptoRow : OpenClaim := { program := "ytpdfihapnnnglaa", sum := "f08292672040e73c4038edd9de060d280abc08c1a3796503f93d37dc659260f3", func := "loop.example/g00076/laws.FnHealth", spec := "fnHealth", apart := false, narrowed := true }
def FnHealthUptoSaid : Prop := fnHealthUptoRow.holds Try.pinned (OpenSpec.upto fnHealthSpec)

end Rows
end Go.Proofs.Ytpdfihapnnnglaa
