/-
  No cell of these rows narrows 'for every input' (looked for: loops, veiled, ifaces, maps, wideKeys, modest, calm, conditions, laid).
  DERIVED. THE GIVEN ROWS OF THIS SEAT. 11 by the template 'for every input the law returns true; each argument reads behind the call as it read before'; 0 by the template 'total and deterministic' (their statements: YtioifcanipijhaaTotals.lean).
  GIVEN WITH THE SEED: the statements are not yours to turn. If you find one false, say at which input.
  Laid BY PROGRAM, IN A SANDBOX (cutbox-rows.mjs): the forced cells as the released guide's own fill.sh prints them over the translation 20ea5dd1b705daf9… (all of the seat's roots in one cut). By AI agents, Wed Nov 11 2026. No macro, syntax, notation, axiom, sorry.
-/
import Derived.Test.YtioifcanipijhaaChecked
import GoSem.Claim
import GoSem.ClaimJoined
import GoSem.ClaimMapViews
import Derived.JoinedTies
import Derived.KernelRfl
namespace Go.Proofs.Ytioifcanipijhaa
/- THE CELL 'sum', in the pinned program and in every row, IS THE sha256 OF THE DUMP (.gsa) THAT YtioifcanipijhaaProg.lean LOADS. Nothing in Lean hashes anything: it is a label: what it is worth is what the hold of that sum in a sandbox is worth. -/
noncomputable def Try.pinned : Pinned := { name := "ytioifcanipijhaa", sum := "20ea5dd1b705daf94e2c9aa237bb5ff90052c6a57fce0bfe69f705fa6ed4c885", checked := Try.checked }
namespace Rows
def none {H : Type} : Left H := { results := [], args := [] }

/-- 'laws.FnExactInOk': WHATEVER THE INPUT: true; the input reads as it did. -/
def fnExactInOkSpec : ChangeSpec := { name := "fnExactInOk", fn := fun _ => fun
  | [d1, d2] => { results := [.lit (.bool true)], args := [d1, d2] }
  | _ => none }
def fnExactInOkRow : OpenClaim := { program := "ytioifcanipijhaa", sum := "20ea5dd1b705daf94e2c9aa237bb5ff90052c6a57fce0bfe69f705fa6ed4c885", func := "loop.example/g00076/laws.FnExactInOk", spec := "fnExactInOk", apart := false }
def FnExactInOkSaid : Prop := fnExactInOkRow.holds Try.pinned (OpenSpec.ofChange fnExactInOkSpec)

/-- ITS FALSE NEIGHBOUR: 'it returns false'. Refute it at one input. -/
def fnExactInOkWrong : ChangeSpec := { name := "fnExactInOk", fn := fun _ => fun
  | [d1, d2] => { results := [.lit (.bool false)], args := [d1, d2] }
  | _ => none }
def FnExactInOkWrongFalsely : Prop := fnExactInOkRow.holds Try.pinned (OpenSpec.ofChange fnExactInOkWrong)

/-- 'laws.FnExactOutOk': WHATEVER THE INPUT: true; the input reads as it did. -/
def fnExactOutOkSpec : ChangeSpec := { name := "fnExactOutOk", fn := fun _ => fun
  | [d1, d2] => { results := [.lit (.bool true)], args := [d1, d2] }
  | _ => none }
def fnExactOutOkRow : OpenClaim := { program := "ytioifcanipijhaa", sum := "20ea5dd1b705daf94e2c9aa237bb5ff90052c6a57fce0bfe69f705fa6ed4c885", func := "loop.example/g00076/laws.FnExactOutOk", spec := "fnExactOutOk", apart := false }
def FnExactOutOkSaid : Prop := fnExactOutOkRow.holds Try.pinned (OpenSpec.ofChange fnExactOutOkSpec)

/-- ITS FALSE NEIGHBOUR: 'it returns false'. Refute it at one input. -/
def fnExactOutOkWrong : ChangeSpec := { name := "fnExactOutOk", fn := fun _ => fun
  | [d1, d2] => { results := [.lit (.bool false)], args := [d1, d2] }
  | _ => none }
def FnExactOutOkWrongFalsely : Prop := fnExactOutOkRow.holds Try.pinned (OpenSpec.ofChange fnExactOutOkWrong)

/-- 'laws.FnExactRoom': WHATEVER THE INPUT: true; the input reads as it did. -/
def fnExactRoomSpec : ChangeSpec := { name := "fnExactRoom", fn := fun _ => fun
  | [d1, d2] => { results := [.lit (.bool true)], args := [d1, d2] }
  | _ => none }
def fnExactRoomRow : OpenClaim := { program := "ytioifcanipijhaa", sum := "20ea5dd1b705daf94e2c9aa237bb5ff90052c6a57fce0bfe69f705fa6ed4c885", func := "loop.example/g00076/laws.FnExactRoom", spec := "fnExactRoom", apart := false }
def FnExactRoomSaid : Prop := fnExactRoomRow.holds Try.pinned (OpenSpec.ofChange fnExactRoomSpec)

/-- ITS FALSE NEIGHBOUR: 'it returns false'. Refute it at one input. -/
def fnExactRoomWrong : ChangeSpec := { name := "fnExactRoom", fn := fun _ => fun
  | [d1, d2] => { results := [.lit (.bool false)], args := [d1, d2] }
  | _ => none }
def FnExactRoomWrongFalsely : Prop := fnExactRoomRow.holds Try.pinned (OpenSpec.ofChange fnExactRoomWrong)

/-- 'laws.FnExactDiscard': WHATEVER THE INPUT: true; the input reads as it did. -/
def fnExactDiscardSpec : ChangeSpec := { name := "fnExactDiscard", fn := fun _ => fun
  | [d1, d2] => { results := [.lit (.bool true)], args := [d1, d2] }
  | _ => none }
def fnExactDiscardRow : OpenClaim := { program := "ytioifcanipijhaa", sum := "20ea5dd1b705daf94e2c9aa237bb5ff90052c6a57fce0bfe69f705fa6ed4c885", func := "loop.example/g00076/laws.FnExactDiscard", spec := "fnExactDiscard", apart := false }
def FnExactDiscardSaid : Prop := fnExactDiscardRow.holds Try.pinned (OpenSpec.ofChange fnExactDiscardSpec)

/-- ITS FALSE NEIGHBOUR: 'it returns false'. Refute it at one input. -/
def fnExactDiscardWrong : ChangeSpec := { name := "fnExactDiscard", fn := fun _ => fun
  | [d1, d2] => { results := [.lit (.bool false)], args := [d1, d2] }
  | _ => none }
def FnExactDiscardWrongFalsely : Prop := fnExactDiscardRow.holds Try.pinned (OpenSpec.ofChange fnExactDiscardWrong)

/-- 'laws.FnExactRecvOn': WHATEVER THE INPUT: true; the input reads as it did. -/
def fnExactRecvOnSpec : ChangeSpec := { name := "fnExactRecvOn", fn := fun _ => fun
  | [d1, d2] => { results := [.lit (.bool true)], args := [d1, d2] }
  | _ => none }
def fnExactRecvOnRow : OpenClaim := { program := "ytioifcanipijhaa", sum := "20ea5dd1b705daf94e2c9aa237bb5ff90052c6a57fce0bfe69f705fa6ed4c885", func := "loop.example/g00076/laws.FnExactRecvOn", spec := "fnExactRecvOn", apart := false }
def FnExactRecvOnSaid : Prop := fnExactRecvOnRow.holds Try.pinned (OpenSpec.ofChange fnExactRecvOnSpec)

/-- ITS FALSE NEIGHBOUR: 'it returns false'. Refute it at one input. -/
def fnExactRecvOnWrong : ChangeSpec := { name := "fnExactRecvOn", fn := fun _ => fun
  | [d1, d2] => { results := [.lit (.bool false)], args := [d1, d2] }
  | _ => none }
def FnExactRecvOnWrongFalsely : Prop := fnExactRecvOnRow.holds Try.pinned (OpenSpec.ofChange fnExactRecvOnWrong)

/-- 'laws.FnExactSendOn': WHATEVER THE INPUT: true; the input reads as it did. -/
def fnExactSendOnSpec : ChangeSpec := { name := "fnExactSendOn", fn := fun _ => fun
  | [d1, d2, d3] => { results := [.lit (.bool true)], args := [d1, d2, d3] }
  | _ => none }
def fnExactSendOnRow : OpenClaim := { program := "ytioifcanipijhaa", sum := "20ea5dd1b705daf94e2c9aa237bb5ff90052c6a57fce0bfe69f705fa6ed4c885", func := "loop.example/g00076/laws.FnExactSendOn", spec := "fnExactSendOn", apart := false }
def FnExactSendOnSaid : Prop := fnExactSendOnRow.holds Try.pinned (OpenSpec.ofChange fnExactSendOnSpec)

/-- ITS FALSE NEIGHBOUR: 'it returns false'. Refute it at one input. -/
def fnExactSendOnWrong : ChangeSpec := { name := "fnExactSendOn", fn := fun _ => fun
  | [d1, d2, d3] => { results := [.lit (.bool false)], args := [d1, d2, d3] }
  | _ => none }
def FnExactSendOnWrongFalsely : Prop := fnExactSendOnRow.holds Try.pinned (OpenSpec.ofChange fnExactSendOnWrong)

/-- 'laws.FnExactBorder': WHATEVER THE INPUT: true; the input reads as it did. -/
def fnExactBorderSpec : ChangeSpec := { name := "fnExactBorder", fn := fun _ => fun
  | [d1, d2, d3] => { results := [.lit (.bool true)], args := [d1, d2, d3] }
  | _ => none }
def fnExactBorderRow : OpenClaim := { program := "ytioifcanipijhaa", sum := "20ea5dd1b705daf94e2c9aa237bb5ff90052c6a57fce0bfe69f705fa6ed4c885", func := "loop.example/g00076/laws.FnExactBorder", spec := "fnExactBorder", apart := false }
def FnExactBorderSaid : Prop := fnExactBorderRow.holds Try.pinned (OpenSpec.ofChange fnExactBorderSpec)

/-- ITS FALSE NEIGHBOUR: 'it returns false'. Refute it at one input. -/
def fnExactBorderWrong : ChangeSpec := { name := "fnExactBorder", fn := fun _ => fun
  | [d1, d2, d3] => { results := [.lit (.bool false)], args := [d1, d2, d3] }
  | _ => none }
def FnExactBorderWrongFalsely : Prop := fnExactBorderRow.holds Try.pinned (OpenSpec.ofChange fnExactBorderWrong)

/-- 'laws.FnRoom': WHATEVER THE INPUT: true; the input reads as it did. -/
def fnRoomSpec : ChangeSpec := { name := "fnRoom", fn := fun _ => fun
  | [d] => { results := [.lit (.bool true)], args := [d] }
  | _ => none }
def fnRoomRow : OpenClaim := { program := "ytioifcanipijhaa", sum := "20ea5dd1b705daf94e2c9aa237bb5ff90052c6a57fce0bfe69f705fa6ed4c885", func := "loop.example/g00076/laws.FnRoom", spec := "fnRoom", apart := false }
def FnRoomSaid : Prop := fnRoomRow.holds Try.pinned (OpenSpec.ofChange fnRoomSpec)

/-- ITS FALSE NEIGHBOUR: 'it returns false'. Refute it at one input. -/
def fnRoomWrong : ChangeSpec := { name := "fnRoom", fn := fun _ => fun
  | [d] => { results := [.lit (.bool false)], args := [d] }
  | _ => none }
def FnRoomWrongFalsely : Prop := fnRoomRow.holds Try.pinned (OpenSpec.ofChange fnRoomWrong)

/-- 'laws.FnQueue': WHATEVER THE INPUT: true; the input reads as it did. -/
def fnQueueSpec : ChangeSpec := { name := "fnQueue", fn := fun _ => fun
  | [d] => { results := [.lit (.bool true)], args := [d] }
  | _ => none }
def fnQueueRow : OpenClaim := { program := "ytioifcanipijhaa", sum := "20ea5dd1b705daf94e2c9aa237bb5ff90052c6a57fce0bfe69f705fa6ed4c885", func := "loop.example/g00076/laws.FnQueue", spec := "fnQueue", unfollowed := true, recurses := true, apart := false }
def FnQueueSaid : Prop := fnQueueRow.holds Try.pinned (OpenSpec.ofChange fnQueueSpec)

/-- ITS FALSE NEIGHBOUR: 'it returns false'. Refute it at one input. -/
def fnQueueWrong : ChangeSpec := { name := "fnQueue", fn := fun _ => fun
  | [d] => { results := [.lit (.bool false)], args := [d] }
  | _ => none }
def FnQueueWrongFalsely : Prop := fnQueueRow.holds Try.pinned (OpenSpec.ofChange fnQueueWrong)

/-- 'laws.FnSample': WHATEVER THE INPUT: true; the input reads as it did. -/
def fnSampleSpec : ChangeSpec := { name := "fnSample", fn := fun _ => fun
  | [d] => { results := [.lit (.bool true)], args := [d] }
  | _ => none }
def fnSampleRow : OpenClaim := { program := "ytioifcanipijhaa", sum := "20ea5dd1b705daf94e2c9aa237bb5ff90052c6a57fce0bfe69f705fa6ed4c885", func := "loop.example/g00076/laws.FnSample", spec := "fnSample", unfollowed := true, recurses := true, apart := false }
def FnSampleSaid : Prop := fnSampleRow.holds Try.pinned (OpenSpec.ofChange fnSampleSpec)

/-- ITS FALSE NEIGHBOUR: 'it returns false'. Refute it at one input. -/
def fnSampleWrong : ChangeSpec := { name := "fnSample", fn := fun _ => fun
  | [d] => { results := [.lit (.bool false)], args := [d] }
  | _ => none }
def FnSampleWrongFalsely : Prop := fnSampleRow.holds Try.pinned (OpenSpec.ofChange fnSampleWrong)

/-- 'laws.FnExactChanPlay': WHATEVER THE INPUT: true; the input reads as it did. -/
def fnExactChanPlaySpec : ChangeSpec := { name := "fnExactChanPlay", fn := fun _ => fun
  | [d1, d2] => { results := [.lit (.bool true)], args := [d1, d2] }
  | _ => none }
def fnExactChanPlayRow : OpenClaim := { program := "ytioifcanipijhaa", sum := "20ea5dd1b705daf94e2c9aa237bb5ff90052c6a57fce0bfe69f705fa6ed4c885", func := "loop.example/g00076/laws.FnExactChanPlay", spec := "fnExactChanPlay", unfollowed := true, recurses := true, apart := false }
def FnExactChanPlaySaid : Prop := fnExactChanPlayRow.holds Try.pinned (OpenSpec.ofChange fnExactChanPlaySpec)

/-- ITS FALSE NEIGHBOUR: 'it returns false'. Refute it at one input. -/
def fnExactChanPlayWrong : ChangeSpec := { name := "fnExactChanPlay", fn := fun _ => fun
  | [d1, d2] => { results := [.lit (.bool false)], args := [d1, d2] }
  | _ => none }
def FnExactChanPlayWrongFalsely : Prop := fnExactChanPlayRow.holds Try.pinned (OpenSpec.ofChange fnExactChanPlayWrong)

/- THE SECOND FORM. 'bulk': how many values and letters a reading holds, each counted each time it is reached (what is shared counts as often as it is met; a slice's spare places count too). A statement '..UptoSaid' is the law's where the arguments, and the package variables that the reading takes, are together of bulk at most 1048576: NARROWER than '..Said'. Prove '..Said' where nothing that the law and all that it calls make is longer than what came in: it says more and counts as full. Else prove '..UptoSaid'. A law counts once. -/
mutual
def uptoBulk {H : Type} : DataW H → Nat
  | .lit (.string bytes) => bytes.length + 1
  | .lit _ => 1
  | .nil => 1
  | .ptr d => uptoBulk d + 1
  | .slice elems spare => uptoBulkAll elems + uptoBulkAll spare + 1
  | .agg parts => uptoBulkAll parts + 1
  | .iface _ d => uptoBulk d + 1
  | .map entries => uptoBulkEntries entries + 1
  | .held _ => 1
def uptoBulkAll {H : Type} : List (DataW H) → Nat
  | [] => 0
  | d :: r => uptoBulk d + uptoBulkAll r
def uptoBulkEntries {H : Type} : List (Lit × DataW H) → Nat
  | [] => 0
  | x :: r => uptoBulkEntry x + uptoBulkEntries r
def uptoBulkEntry {H : Type} : Lit × DataW H → Nat
  | (.string bytes, d) => bytes.length + uptoBulk d + 1
  | (_, d) => uptoBulk d + 1
 end
def uptoSmall : (H : Type) → List (DataW H) → Bool := fun _ ds => decide (uptoBulkAll ds ≤ 1048576)
def OpenSpec.upto (s : _root_.Go.ChangeSpec) : _root_.Go.OpenSpec := { _root_.Go.OpenSpec.ofChange s with cond := some uptoSmall }

/-- 'laws.FnExactInOk', WHERE WHAT IT READS IS OF BULK AT MOST 1048576: true; the input reads as it did. -/
def fnExactInOkUptoRow : OpenClaim := { program := "ytioifcanipijhaa", sum := "20ea5dd1b705daf94e2c9aa237bb5ff90052c6a57fce0bfe69f705fa6ed4c885", func := "loop.example/g00076/laws.FnExactInOk", spec := "fnExactInOk", apart := false, narrowed := true }
def FnExactInOkUptoSaid : Prop := fnExactInOkUptoRow.holds Try.pinned (OpenSpec.upto fnExactInOkSpec)

/-- 'laws.FnExactOutOk', WHERE WHAT IT READS IS OF BULK AT MOST 1048576: true; the input reads as it did. -/
def fnExactOutOkUptoRow : OpenClaim := { program := "ytioifcanipijhaa", sum := "20ea5dd1b705daf94e2c9aa237bb5ff90052c6a57fce0bfe69f705fa6ed4c885", func := "loop.example/g00076/laws.FnExactOutOk", spec := "fnExactOutOk", apart := false, narrowed := true }
def FnExactOutOkUptoSaid : Prop := fnExactOutOkUptoRow.holds Try.pinned (OpenSpec.upto fnExactOutOkSpec)

/-- 'laws.FnExactRoom', WHERE WHAT IT READS IS OF BULK AT MOST 1048576: true; the input reads as it did. -/
def fnExactRoomUptoRow : OpenClaim := { program := "ytioifcanipijhaa", sum := "20ea5dd1b705daf94e2c9aa237bb5ff90052c6a57fce0bfe69f705fa6ed4c885", func := "loop.example/g00076/laws.FnExactRoom", spec := "fnExactRoom", apart := false, narrowed := true }
def FnExactRoomUptoSaid : Prop := fnExactRoomUptoRow.holds Try.pinned (OpenSpec.upto fnExactRoomSpec)

/-- 'laws.FnExactDiscard', WHERE WHAT IT READS IS OF BULK AT MOST 1048576: true; the input reads as it did. -/
def fnExactDiscardUptoRow : OpenClaim := { program := "ytioifcanipijhaa", sum := "20ea5dd1b705daf94e2c9aa237bb5ff90052c6a57fce0bfe69f705fa6ed4c885", func := "loop.example/g00076/laws.FnExactDiscard", spec := "fnExactDiscard", apart := false, narrowed := true }
def FnExactDiscardUptoSaid : Prop := fnExactDiscardUptoRow.holds Try.pinned (OpenSpec.upto fnExactDiscardSpec)

/-- 'laws.FnExactRecvOn', WHERE WHAT IT READS IS OF BULK AT MOST 1048576: true; the input reads as it did. -/
def fnExactRecvOnUptoRow : OpenClaim := { program := "ytioifcanipijhaa", sum := "20ea5dd1b705daf94e2c9aa237bb5ff90052c6a57fce0bfe69f705fa6ed4c885", func := "loop.example/g00076/laws.FnExactRecvOn", spec := "fnExactRecvOn", apart := false, narrowed := true }
def FnExactRecvOnUptoSaid : Prop := fnExactRecvOnUptoRow.holds Try.pinned (OpenSpec.upto fnExactRecvOnSpec)

/-- 'laws.FnExactSendOn', WHERE WHAT IT READS IS OF BULK AT MOST 1048576: true; the input reads as it did. -/
def fnExactSendOnUptoRow : OpenClaim := { program := "ytioifcanipijhaa", sum := "20ea5dd1b705daf94e2c9aa237bb5ff90052c6a57fce0bfe69f705fa6ed4c885", func := "loop.example/g00076/laws.FnExactSendOn", spec := "fnExactSendOn", apart := false, narrowed := true }
def FnExactSendOnUptoSaid : Prop := fnExactSendOnUptoRow.holds Try.pinned (OpenSpec.upto fnExactSendOnSpec)

/-- 'laws.FnExactBorder', WHERE WHAT IT READS IS OF BULK AT MOST 1048576: true; the input reads as it did. -/
def fnExactBorderUptoRow : OpenClaim := { program := "ytioifcanipijhaa", sum := "20ea5dd1b705daf94e2c9aa237bb5ff90052c6a57fce0bfe69f705fa6ed4c885", func := "loop.example/g00076/laws.FnExactBorder", spec := "fnExactBorder", apart := false, narrowed := true }
def FnExactBorderUptoSaid : Prop := fnExactBorderUptoRow.holds Try.pinned (OpenSpec.upto fnExactBorderSpec)

/-- 'laws.FnRoom', WHERE WHAT IT READS IS OF BULK AT MOST 1048576: true; the input reads as it did. -/
def fnRoomUptoRow : OpenClaim := { program := "ytioifcanipijhaa", sum := "20ea5dd1b705daf94e2c9aa237bb5ff90052c6a57fce0bfe69f705fa6ed4c885", func := "loop.example/g00076/laws.FnRoom", spec := "fnRoom", apart := false, narrowed := true }
def FnRoomUptoSaid : Prop := fnRoomUptoRow.holds Try.pinned (OpenSpec.upto fnRoomSpec)

/-- 'laws.FnQueue', WHERE WHAT IT READS IS OF BULK AT MOST 1048576: true; the input reads as it did. -/
def fnQueueUptoRow : OpenClaim := { program := "ytioifcanipijhaa", sum := "20ea5dd1b705daf94e2c9aa237bb5ff90052c6a57fce0bfe69f705fa6ed4c885", func := "loop.example/g00076/laws.FnQueue", spec := "fnQueue", unfollowed := true, recurses := true, apart := false, narrowed := true }
def FnQueueUptoSaid : Prop := fnQueueUptoRow.holds Try.pinned (OpenSpec.upto fnQueueSpec)

/-- 'laws.FnSample', WHERE WHAT IT READS IS OF BULK AT MOST 1048576: true; the input reads as it did. -/
def fnSampleUptoRow : OpenClaim := { program := "ytioifcanipijhaa", sum := "20ea5dd1b705daf94e2c9aa237bb5ff90052c6a57fce0bfe69f705fa6ed4c885", func := "loop.example/g00076/laws.FnSample", spec := "fnSample", unfollowed := true, recurses := true, apart := false, narrowed := true }
def FnSampleUptoSaid : Prop := fnSampleUptoRow.holds Try.pinned (OpenSpec.upto fnSampleSpec)

/-- 'laws.FnExactChanPlay', WHERE WHAT IT READS IS OF BULK AT MOST 1048576: true; the input reads as it did. -/
def fnExactChanPlayUptoRow : OpenClaim := { program := "ytioifcanipijhaa", sum := "20ea5dd1b705daf94e2c9aa237bb5ff90052c6a57fce0bfe69f705fa6ed4c885", func := "loop.example/g00076/laws.FnExactChanPlay", spec := "fnExactChanPlay", unfollowed := true, recurses := true, apart := false, narrowed := true }
def FnExactChanPlayUptoSaid : Prop := fnExactChanPlayUptoRow.holds Try.pinned (OpenSpec.upto fnExactChanPlaySpec)

end Rows
end Go.Proofs.Ytioifcanipijhaa
