/-
  No cell of these rows narrows 'for every input' (looked for: loops, veiled, ifaces, maps, wideKeys, modest, calm, conditions, laid).
  DERIVED. THE GIVEN ROWS OF THIS SEAT. 7 by the template 'for every input the law returns true; each argument reads behind the call as it read before'; 0 by the template 'total and deterministic' (their statements: YtbcpkigeginmnaaTotals.lean).
  GIVEN WITH THE SEED: the statements are not yours to turn. If you find one false, say at which input.
  Laid BY PROGRAM, IN A SANDBOX (cutbox-rows.mjs): the forced cells as the released guide's own fill.sh prints them over the translation a4d29b6943484938… (all of the seat's roots in one cut). By AI agents, Wed Nov 11 2026. No macro, syntax, notation, axiom, sorry.
-/
import Derived.Test.YtbcpkigeginmnaaChecked
import GoSem.Claim
import GoSem.ClaimJoined
import GoSem.ClaimMapViews
import Derived.JoinedTies
import Derived.KernelRfl
namespace Go.Proofs.Ytbcpkigeginmnaa
/- THE CELL 'sum', in the pinned program and in every row, IS THE sha256 OF THE DUMP (.gsa) THAT YtbcpkigeginmnaaProg.lean LOADS. Nothing in Lean hashes anything: it is a label: what it is worth is what the hold of that sum in a sandbox is worth. -/
noncomputable def Try.pinned : Pinned := { name := "ytbcpkigeginmnaa", sum := "a4d29b6943484938af964f8237b10ae817cdb2967c851a7df617b7bcdd8ad90d", checked := Try.checked }
namespace Rows
def none {H : Type} : Left H := { results := [], args := [] }

/-- 'laws.FnExactRegSet': WHATEVER THE INPUT: true; the input reads as it did. -/
def fnExactRegSetSpec : ChangeSpec := { name := "fnExactRegSet", fn := fun _ => fun
  | [d1, d2, d3] => { results := [.lit (.bool true)], args := [d1, d2, d3] }
  | _ => none }
def fnExactRegSetRow : OpenClaim := { program := "ytbcpkigeginmnaa", sum := "a4d29b6943484938af964f8237b10ae817cdb2967c851a7df617b7bcdd8ad90d", func := "loop.example/g00076/laws.FnExactRegSet", spec := "fnExactRegSet", apart := false }
def FnExactRegSetSaid : Prop := fnExactRegSetRow.holds Try.pinned (OpenSpec.ofChange fnExactRegSetSpec)

/-- ITS FALSE NEIGHBOUR: 'it returns false'. Refute it at one input. -/
def fnExactRegSetWrong : ChangeSpec := { name := "fnExactRegSet", fn := fun _ => fun
  | [d1, d2, d3] => { results := [.lit (.bool false)], args := [d1, d2, d3] }
  | _ => none }
def FnExactRegSetWrongFalsely : Prop := fnExactRegSetRow.holds Try.pinned (OpenSpec.ofChange fnExactRegSetWrong)

/-- 'laws.FnExactGuestOk': WHATEVER THE INPUT: true; the input reads as it did. -/
def fnExactGuestOkSpec : ChangeSpec := { name := "fnExactGuestOk", fn := fun _ => fun
  | [d1, d2] => { results := [.lit (.bool true)], args := [d1, d2] }
  | _ => none }
def fnExactGuestOkRow : OpenClaim := { program := "ytbcpkigeginmnaa", sum := "a4d29b6943484938af964f8237b10ae817cdb2967c851a7df617b7bcdd8ad90d", func := "loop.example/g00076/laws.FnExactGuestOk", spec := "fnExactGuestOk", unfollowed := true, recurses := true, apart := false }
def FnExactGuestOkSaid : Prop := fnExactGuestOkRow.holds Try.pinned (OpenSpec.ofChange fnExactGuestOkSpec)

/-- ITS FALSE NEIGHBOUR: 'it returns false'. Refute it at one input. -/
def fnExactGuestOkWrong : ChangeSpec := { name := "fnExactGuestOk", fn := fun _ => fun
  | [d1, d2] => { results := [.lit (.bool false)], args := [d1, d2] }
  | _ => none }
def FnExactGuestOkWrongFalsely : Prop := fnExactGuestOkRow.holds Try.pinned (OpenSpec.ofChange fnExactGuestOkWrong)

/-- 'laws.FnExactGuestNew': WHATEVER THE INPUT: true; the input reads as it did. -/
def fnExactGuestNewSpec : ChangeSpec := { name := "fnExactGuestNew", fn := fun _ => fun
  | [d1, d2] => { results := [.lit (.bool true)], args := [d1, d2] }
  | _ => none }
def fnExactGuestNewRow : OpenClaim := { program := "ytbcpkigeginmnaa", sum := "a4d29b6943484938af964f8237b10ae817cdb2967c851a7df617b7bcdd8ad90d", func := "loop.example/g00076/laws.FnExactGuestNew", spec := "fnExactGuestNew", unfollowed := true, recurses := true, apart := false }
def FnExactGuestNewSaid : Prop := fnExactGuestNewRow.holds Try.pinned (OpenSpec.ofChange fnExactGuestNewSpec)

/-- ITS FALSE NEIGHBOUR: 'it returns false'. Refute it at one input. -/
def fnExactGuestNewWrong : ChangeSpec := { name := "fnExactGuestNew", fn := fun _ => fun
  | [d1, d2] => { results := [.lit (.bool false)], args := [d1, d2] }
  | _ => none }
def FnExactGuestNewWrongFalsely : Prop := fnExactGuestNewRow.holds Try.pinned (OpenSpec.ofChange fnExactGuestNewWrong)

/-- 'laws.FnExactFetch': WHATEVER THE INPUT: true; the input reads as it did. -/
def fnExactFetchSpec : ChangeSpec := { name := "fnExactFetch", fn := fun _ => fun
  | [d1, d2] => { results := [.lit (.bool true)], args := [d1, d2] }
  | _ => none }
def fnExactFetchRow : OpenClaim := { program := "ytbcpkigeginmnaa", sum := "a4d29b6943484938af964f8237b10ae817cdb2967c851a7df617b7bcdd8ad90d", func := "loop.example/g00076/laws.FnExactFetch", spec := "fnExactFetch", unfollowed := true, recurses := true, apart := false }
def FnExactFetchSaid : Prop := fnExactFetchRow.holds Try.pinned (OpenSpec.ofChange fnExactFetchSpec)

/-- ITS FALSE NEIGHBOUR: 'it returns false'. Refute it at one input. -/
def fnExactFetchWrong : ChangeSpec := { name := "fnExactFetch", fn := fun _ => fun
  | [d1, d2] => { results := [.lit (.bool false)], args := [d1, d2] }
  | _ => none }
def FnExactFetchWrongFalsely : Prop := fnExactFetchRow.holds Try.pinned (OpenSpec.ofChange fnExactFetchWrong)

/-- 'laws.FnExactPeek': WHATEVER THE INPUT: true; the input reads as it did. -/
def fnExactPeekSpec : ChangeSpec := { name := "fnExactPeek", fn := fun _ => fun
  | [d1, d2, d3, d4] => { results := [.lit (.bool true)], args := [d1, d2, d3, d4] }
  | _ => none }
def fnExactPeekRow : OpenClaim := { program := "ytbcpkigeginmnaa", sum := "a4d29b6943484938af964f8237b10ae817cdb2967c851a7df617b7bcdd8ad90d", func := "loop.example/g00076/laws.FnExactPeek", spec := "fnExactPeek", unfollowed := true, recurses := true, apart := false }
def FnExactPeekSaid : Prop := fnExactPeekRow.holds Try.pinned (OpenSpec.ofChange fnExactPeekSpec)

/-- ITS FALSE NEIGHBOUR: 'it returns false'. Refute it at one input. -/
def fnExactPeekWrong : ChangeSpec := { name := "fnExactPeek", fn := fun _ => fun
  | [d1, d2, d3, d4] => { results := [.lit (.bool false)], args := [d1, d2, d3, d4] }
  | _ => none }
def FnExactPeekWrongFalsely : Prop := fnExactPeekRow.holds Try.pinned (OpenSpec.ofChange fnExactPeekWrong)

/-- 'laws.FnExactPoke': WHATEVER THE INPUT: true; the input reads as it did. -/
def fnExactPokeSpec : ChangeSpec := { name := "fnExactPoke", fn := fun _ => fun
  | [d1, d2, d3, d4, d5] => { results := [.lit (.bool true)], args := [d1, d2, d3, d4, d5] }
  | _ => none }
def fnExactPokeRow : OpenClaim := { program := "ytbcpkigeginmnaa", sum := "a4d29b6943484938af964f8237b10ae817cdb2967c851a7df617b7bcdd8ad90d", func := "loop.example/g00076/laws.FnExactPoke", spec := "fnExactPoke", unfollowed := true, recurses := true, apart := false }
def FnExactPokeSaid : Prop := fnExactPokeRow.holds Try.pinned (OpenSpec.ofChange fnExactPokeSpec)

/-- ITS FALSE NEIGHBOUR: 'it returns false'. Refute it at one input. -/
def fnExactPokeWrong : ChangeSpec := { name := "fnExactPoke", fn := fun _ => fun
  | [d1, d2, d3, d4, d5] => { results := [.lit (.bool false)], args := [d1, d2, d3, d4, d5] }
  | _ => none }
def FnExactPokeWrongFalsely : Prop := fnExactPokeRow.holds Try.pinned (OpenSpec.ofChange fnExactPokeWrong)

/-- 'laws.FnExactCoreStep': WHATEVER THE INPUT: true; the input reads as it did. -/
def fnExactCoreStepSpec : ChangeSpec := { name := "fnExactCoreStep", fn := fun _ => fun
  | [d1, d2, d3] => { results := [.lit (.bool true)], args := [d1, d2, d3] }
  | _ => none }
def fnExactCoreStepRow : OpenClaim := { program := "ytbcpkigeginmnaa", sum := "a4d29b6943484938af964f8237b10ae817cdb2967c851a7df617b7bcdd8ad90d", func := "loop.example/g00076/laws.FnExactCoreStep", spec := "fnExactCoreStep", unfollowed := true, recurses := true, apart := false }
def FnExactCoreStepSaid : Prop := fnExactCoreStepRow.holds Try.pinned (OpenSpec.ofChange fnExactCoreStepSpec)

/-- ITS FALSE NEIGHBOUR: 'it returns false'. Refute it at one input. -/
def fnExactCoreStepWrong : ChangeSpec := { name := "fnExactCoreStep", fn := fun _ => fun
  | [d1, d2, d3] => { results := [.lit (.bool false)], args := [d1, d2, d3] }
  | _ => none }
def FnExactCoreStepWrongFalsely : Prop := fnExactCoreStepRow.holds Try.pinned (OpenSpec.ofChange fnExactCoreStepWrong)

/- THE SECOND FORM. 'bulk': how many values and letters a reading holds, each counted each time it is reached (what is shared counts as often as it is met; a slice's spare places count too). A statement '..UptoSaid' is the law's where the arguments, and the package variables that the reading takes, are together of bulk at most 1048576: NARROWER than '..Said'. Prove '..Said' where nothing that the law and all that it calls make is longer than what came in: it says more and counts as full. Else prove '..UptoSaid'. A law counts once. -/
mutual
def uptoBulk {H : Type} : DataW H → Nat
  | .lit (.string bytes) => bytes.length + 1
  | .lit _ => 1
  | .nil => 1
  | .ptr d => uptoBulk d + 1
  | .slice elems spare => uptoBulkAll elems + uptoBulkAll spare + 1
  | .agg parts => uptoBulkAll parts + 1
  | .iface _ d => uptoBulk d + 1
  | .map entries => uptoBulkEntries entries + 1
  | .held _ => 1
def uptoBulkAll {H : Type} : List (DataW H) → Nat
  | [] => 0
  | d :: r => uptoBulk d + uptoBulkAll r
def uptoBulkEntries {H : Type} : List (Lit × DataW H) → Nat
  | [] => 0
  | x :: r => uptoBulkEntry x + uptoBulkEntries r
def uptoBulkEntry {H : Type} : Lit × DataW H → Nat
  | (.string bytes, d) => bytes.length + uptoBulk d + 1
  | (_, d) => uptoBulk d + 1
 end
def uptoSmall : (H : Type) → List (DataW H) → Bool := fun _ ds => decide (uptoBulkAll ds ≤ 1048576)
def OpenSpec.upto (s : _root_.Go.ChangeSpec) : _root_.Go.OpenSpec := { _root_.Go.OpenSpec.ofChange s with cond := some uptoSmall }

/-- 'laws.FnExactRegSet', WHERE WHAT IT READS IS OF BULK AT MOST 1048576: true; the input reads as it did. -/
def fnExactRegSetUptoRow : OpenClaim := { program := "ytbcpkigeginmnaa", sum := "a4d29b6943484938af964f8237b10ae817cdb2967c851a7df617b7bcdd8ad90d", func := "loop.example/g00076/laws.FnExactRegSet", spec := "fnExactRegSet", apart := false, narrowed := true }
def FnExactRegSetUptoSaid : Prop := fnExactRegSetUptoRow.holds Try.pinned (OpenSpec.upto fnExactRegSetSpec)

/-- 'laws.FnExactGuestOk', WHERE WHAT IT READS IS OF BULK AT MOST 1048576: true; the input reads as it did. -/
def fnExactGuestOkUptoRow : OpenClaim := { program := "ytbcpkigeginmnaa", sum := "a4d29b6943484938af964f8237b10ae817cdb2967c851a7df617b7bcdd8ad90d", func := "loop.example/g00076/laws.FnExactGuestOk", spec := "fnExactGuestOk", unfollowed := true, recurses := true, apart := false, narrowed := true }
def FnExactGuestOkUptoSaid : Prop := fnExactGuestOkUptoRow.holds Try.pinned (OpenSpec.upto fnExactGuestOkSpec)

/-- 'laws.FnExactGuestNew', WHERE WHAT IT READS IS OF BULK AT MOST 1048576: true; the input reads as it did. -/
def fnExactGuestNewUptoRow : OpenClaim := { program := "ytbcpkigeginmnaa", sum := "a4d29b6943484938af964f8237b10ae817cdb2967c851a7df617b7bcdd8ad90d", func := "loop.example/g00076/laws.FnExactGuestNew", spec := "fnExactGuestNew", unfollowed := true, recurses := true, apart := false, narrowed := true }
def FnExactGuestNewUptoSaid : Prop := fnExactGuestNewUptoRow.holds Try.pinned (OpenSpec.upto fnExactGuestNewSpec)

/-- 'laws.FnExactFetch', WHERE WHAT IT READS IS OF BULK AT MOST 1048576: true; the input reads as it did. -/
def fnExactFetchUptoRow : OpenClaim := { program := "ytbcpkigeginmnaa", sum := "a4d29b6943484938af964f8237b10ae817cdb2967c851a7df617b7bcdd8ad90d", func := "loop.example/g00076/laws.FnExactFetch", spec := "fnExactFetch", unfollowed := true, recurses := true, apart := false, narrowed := true }
def FnExactFetchUptoSaid : Prop := fnExactFetchUptoRow.holds Try.pinned (OpenSpec.upto fnExactFetchSpec)

/-- 'laws.FnExactPeek', WHERE WHAT IT READS IS OF BULK AT MOST 1048576: true; the input reads as it did. -/
def fnExactPeekUptoRow : OpenClaim := { program := "ytbcpkigeginmnaa", sum := "a4d29b6943484938af964f8237b10ae817cdb2967c851a7df617b7bcdd8ad90d", func := "loop.example/g00076/laws.FnExactPeek", spec := "fnExactPeek", unfollowed := true, recurses := true, apart := false, narrowed := true }
def FnExactPeekUptoSaid : Prop := fnExactPeekUptoRow.holds Try.pinned (OpenSpec.upto fnExactPeekSpec)

/-- 'laws.FnExactPoke', WHERE WHAT IT READS IS OF BULK AT MOST 1048576: true; the input reads as it did. -/
def fnExactPokeUptoRow : OpenClaim := { program := "ytbcpkigeginmnaa", sum := "a4d29b6943484938af964f8237b10ae817cdb2967c851a7df617b7bcdd8ad90d", func := "loop.example/g00076/laws.FnExactPoke", spec := "fnExactPoke", unfollowed := true, recurses := true, apart := false, narrowed := true }
def FnExactPokeUptoSaid : Prop := fnExactPokeUptoRow.holds Try.pinned (OpenSpec.upto fnExactPokeSpec)

/-- 'laws.FnExactCoreStep', WHERE WHAT IT READS IS OF BULK AT MOST 1048576: true; the input reads as it did. -/
def fnExactCoreStepUptoRow : OpenClaim := { program := "ytbcpkigeginmnaa", sum := "a4d29b6943484938af964f8237b10ae817cdb2967c851a7df617b7bcdd8ad90d", func := "loop.example/g00076/laws.FnExactCoreStep", spec := "fnExactCoreStep", unfollowed := true, recurses := true, apart := false, narrowed := true }
def FnExactCoreStepUptoSaid : Prop := fnExactCoreStepUptoRow.holds Try.pinned (OpenSpec.upto fnExactCoreStepSpec)

end Rows
end Go.Proofs.Ytbcpkigeginmnaa
