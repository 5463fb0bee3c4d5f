/-
  No cell of these rows narrows 'for every input' (looked for: loops, veiled, ifaces, maps, wideKeys, modest, calm, conditions, laid).
  DERIVED. THE GIVEN ROWS OF THIS SEAT. 6 by the template 'for every input the law returns true; each argument reads behind the call as it read before'; 0 by the template 'total and deterministic' (their statements: YtampcamihaleaaaTotals.lean).
  GIVEN WITH THE SEED: the statements are not yours to turn. If you find one false, say at which input.
  Laid BY PROGRAM, IN A SANDBOX (cutbox-rows.mjs): the forced cells as the released guide's own fill.sh prints them over the translation bf2d8b5b4a9f8887… (all of the seat's roots in one cut). By AI agents, Wed Nov 11 2026. No macro, syntax, notation, axiom, sorry.
-/
import Derived.Test.YtampcamihaleaaaChecked
import GoSem.Claim
import GoSem.ClaimJoined
import GoSem.ClaimMapViews
import Derived.JoinedTies
import Derived.KernelRfl
namespace Go.Proofs.Ytampcamihaleaaa
/- THE CELL 'sum', in the pinned program and in every row, IS THE sha256 OF THE DUMP (.gsa) THAT YtampcamihaleaaaProg.lean LOADS. Nothing in Lean hashes anything: it is a label: what it is worth is what the hold of that sum in a sandbox is worth. -/
noncomputable def Try.pinned : Pinned := { name := "ytampcamihaleaaa", sum := "bf2d8b5b4a9f888726ea61edf15426c4b0943e9c6b851d88a9a136fddffe668d", checked := Try.checked }
namespace Rows
def none {H : Type} : Left H := { results := [], args := [] }

/-- 'laws.FnExactWindowsOk': WHATEVER THE INPUT: true; the input reads as it did. -/
def fnExactWindowsOkSpec : ChangeSpec := { name := "fnExactWindowsOk", fn := fun _ => fun
  | [d] => { results := [.lit (.bool true)], args := [d] }
  | _ => none }
def fnExactWindowsOkRow : OpenClaim := { program := "ytampcamihaleaaa", sum := "bf2d8b5b4a9f888726ea61edf15426c4b0943e9c6b851d88a9a136fddffe668d", func := "loop.example/g00076/laws.FnExactWindowsOk", spec := "fnExactWindowsOk", unfollowed := true, recurses := true, apart := false }
def FnExactWindowsOkSaid : Prop := fnExactWindowsOkRow.holds Try.pinned (OpenSpec.ofChange fnExactWindowsOkSpec)

/-- ITS FALSE NEIGHBOUR: 'it returns false'. Refute it at one input. -/
def fnExactWindowsOkWrong : ChangeSpec := { name := "fnExactWindowsOk", fn := fun _ => fun
  | [d] => { results := [.lit (.bool false)], args := [d] }
  | _ => none }
def FnExactWindowsOkWrongFalsely : Prop := fnExactWindowsOkRow.holds Try.pinned (OpenSpec.ofChange fnExactWindowsOkWrong)

/-- 'laws.FnExactWindowAt': WHATEVER THE INPUT: true; the input reads as it did. -/
def fnExactWindowAtSpec : ChangeSpec := { name := "fnExactWindowAt", fn := fun _ => fun
  | [d1, d2] => { results := [.lit (.bool true)], args := [d1, d2] }
  | _ => none }
def fnExactWindowAtRow : OpenClaim := { program := "ytampcamihaleaaa", sum := "bf2d8b5b4a9f888726ea61edf15426c4b0943e9c6b851d88a9a136fddffe668d", func := "loop.example/g00076/laws.FnExactWindowAt", spec := "fnExactWindowAt", unfollowed := true, recurses := true, apart := false }
def FnExactWindowAtSaid : Prop := fnExactWindowAtRow.holds Try.pinned (OpenSpec.ofChange fnExactWindowAtSpec)

/-- ITS FALSE NEIGHBOUR: 'it returns false'. Refute it at one input. -/
def fnExactWindowAtWrong : ChangeSpec := { name := "fnExactWindowAt", fn := fun _ => fun
  | [d1, d2] => { results := [.lit (.bool false)], args := [d1, d2] }
  | _ => none }
def FnExactWindowAtWrongFalsely : Prop := fnExactWindowAtRow.holds Try.pinned (OpenSpec.ofChange fnExactWindowAtWrong)

/-- 'laws.FnExactReach': WHATEVER THE INPUT: true; the input reads as it did. -/
def fnExactReachSpec : ChangeSpec := { name := "fnExactReach", fn := fun _ => fun
  | [d] => { results := [.lit (.bool true)], args := [d] }
  | _ => none }
def fnExactReachRow : OpenClaim := { program := "ytampcamihaleaaa", sum := "bf2d8b5b4a9f888726ea61edf15426c4b0943e9c6b851d88a9a136fddffe668d", func := "loop.example/g00076/laws.FnExactReach", spec := "fnExactReach", unfollowed := true, recurses := true, apart := false }
def FnExactReachSaid : Prop := fnExactReachRow.holds Try.pinned (OpenSpec.ofChange fnExactReachSpec)

/-- ITS FALSE NEIGHBOUR: 'it returns false'. Refute it at one input. -/
def fnExactReachWrong : ChangeSpec := { name := "fnExactReach", fn := fun _ => fun
  | [d] => { results := [.lit (.bool false)], args := [d] }
  | _ => none }
def FnExactReachWrongFalsely : Prop := fnExactReachRow.holds Try.pinned (OpenSpec.ofChange fnExactReachWrong)

/-- 'laws.FnExactFaultAt': WHATEVER THE INPUT: true; the input reads as it did. -/
def fnExactFaultAtSpec : ChangeSpec := { name := "fnExactFaultAt", fn := fun _ => fun
  | [d1, d2, d3, d4] => { results := [.lit (.bool true)], args := [d1, d2, d3, d4] }
  | _ => none }
def fnExactFaultAtRow : OpenClaim := { program := "ytampcamihaleaaa", sum := "bf2d8b5b4a9f888726ea61edf15426c4b0943e9c6b851d88a9a136fddffe668d", func := "loop.example/g00076/laws.FnExactFaultAt", spec := "fnExactFaultAt", unfollowed := true, recurses := true, apart := false }
def FnExactFaultAtSaid : Prop := fnExactFaultAtRow.holds Try.pinned (OpenSpec.ofChange fnExactFaultAtSpec)

/-- ITS FALSE NEIGHBOUR: 'it returns false'. Refute it at one input. -/
def fnExactFaultAtWrong : ChangeSpec := { name := "fnExactFaultAt", fn := fun _ => fun
  | [d1, d2, d3, d4] => { results := [.lit (.bool false)], args := [d1, d2, d3, d4] }
  | _ => none }
def FnExactFaultAtWrongFalsely : Prop := fnExactFaultAtRow.holds Try.pinned (OpenSpec.ofChange fnExactFaultAtWrong)

/-- 'laws.FnExactKept': WHATEVER THE INPUT: true; the input reads as it did. -/
def fnExactKeptSpec : ChangeSpec := { name := "fnExactKept", fn := fun _ => fun
  | [d1, d2] => { results := [.lit (.bool true)], args := [d1, d2] }
  | _ => none }
def fnExactKeptRow : OpenClaim := { program := "ytampcamihaleaaa", sum := "bf2d8b5b4a9f888726ea61edf15426c4b0943e9c6b851d88a9a136fddffe668d", func := "loop.example/g00076/laws.FnExactKept", spec := "fnExactKept", unfollowed := true, recurses := true, apart := false }
def FnExactKeptSaid : Prop := fnExactKeptRow.holds Try.pinned (OpenSpec.ofChange fnExactKeptSpec)

/-- ITS FALSE NEIGHBOUR: 'it returns false'. Refute it at one input. -/
def fnExactKeptWrong : ChangeSpec := { name := "fnExactKept", fn := fun _ => fun
  | [d1, d2] => { results := [.lit (.bool false)], args := [d1, d2] }
  | _ => none }
def FnExactKeptWrongFalsely : Prop := fnExactKeptRow.holds Try.pinned (OpenSpec.ofChange fnExactKeptWrong)

/-- 'laws.FnWindows': WHATEVER THE INPUT: true; the input reads as it did. -/
def fnWindowsSpec : ChangeSpec := { name := "fnWindows", fn := fun _ => fun
  | [d] => { results := [.lit (.bool true)], args := [d] }
  | _ => none }
def fnWindowsRow : OpenClaim := { program := "ytampcamihaleaaa", sum := "bf2d8b5b4a9f888726ea61edf15426c4b0943e9c6b851d88a9a136fddffe668d", func := "loop.example/g00076/laws.FnWindows", spec := "fnWindows", unfollowed := true, recurses := true, apart := false }
def FnWindowsSaid : Prop := fnWindowsRow.holds Try.pinned (OpenSpec.ofChange fnWindowsSpec)

/-- ITS FALSE NEIGHBOUR: 'it returns false'. Refute it at one input. -/
def fnWindowsWrong : ChangeSpec := { name := "fnWindows", fn := fun _ => fun
  | [d] => { results := [.lit (.bool false)], args := [d] }
  | _ => none }
def FnWindowsWrongFalsely : Prop := fnWindowsRow.holds Try.pinned (OpenSpec.ofChange fnWindowsWrong)

/- THE SECOND FORM. 'bulk': how many values and letters a reading holds, each counted each time it is reached (what is shared counts as often as it is met; a slice's spare places count too). A statement '..UptoSaid' is the law's where the arguments, and the package variables that the reading takes, are together of bulk at most 1048576: NARROWER than '..Said'. Prove '..Said' where nothing that the law and all that it calls make is longer than what came in: it says more and counts as full. Else prove '..UptoSaid'. A law counts once. -/
mutual
def uptoBulk {H : Type} : DataW H → Nat
  | .lit (.string bytes) => bytes.length + 1
  | .lit _ => 1
  | .nil => 1
  | .ptr d => uptoBulk d + 1
  | .slice elems spare => uptoBulkAll elems + uptoBulkAll spare + 1
  | .agg parts => uptoBulkAll parts + 1
  | .iface _ d => uptoBulk d + 1
  | .map entries => uptoBulkEntries entries + 1
  | .held _ => 1
def uptoBulkAll {H : Type} : List (DataW H) → Nat
  | [] => 0
  | d :: r => uptoBulk d + uptoBulkAll r
def uptoBulkEntries {H : Type} : List (Lit × DataW H) → Nat
  | [] => 0
  | x :: r => uptoBulkEntry x + uptoBulkEntries r
def uptoBulkEntry {H : Type} : Lit × DataW H → Nat
  | (.string bytes, d) => bytes.length + uptoBulk d + 1
  | (_, d) => uptoBulk d + 1
 end
def uptoSmall : (H : Type) → List (DataW H) → Bool := fun _ ds => decide (uptoBulkAll ds ≤ 1048576)
def OpenSpec.upto (s : _root_.Go.ChangeSpec) : _root_.Go.OpenSpec := { _root_.Go.OpenSpec.ofChange s with cond := some uptoSmall }

/-- 'laws.FnExactWindowsOk', WHERE WHAT IT READS IS OF BULK AT MOST 1048576: true; the input reads as it did. -/
def fnExactWindowsOkUptoRow : OpenClaim := { program := "ytampcamihaleaaa", sum := "bf2d8b5b4a9f888726ea61edf15426c4b0943e9c6b851d88a9a136fddffe668d", func := "loop.example/g00076/laws.FnExactWindowsOk", spec := "fnExactWindowsOk", unfollowed := true, recurses := true, apart := false, narrowed := true }
def FnExactWindowsOkUptoSaid : Prop := fnExactWindowsOkUptoRow.holds Try.pinned (OpenSpec.upto fnExactWindowsOkSpec)

/-- 'laws.FnExactWindowAt', WHERE WHAT IT READS IS OF BULK AT MOST 1048576: true; the input reads as it did. -/
def fnExactWindowAtUptoRow : OpenClaim := { program := "ytampcamihaleaaa", sum := "bf2d8b5b4a9f888726ea61edf15426c4b0943e9c6b851d88a9a136fddffe668d", func := "loop.example/g00076/laws.FnExactWindowAt", spec := "fnExactWindowAt", unfollowed := true, recurses := true, apart := false, narrowed := true }
def FnExactWindowAtUptoSaid : Prop := fnExactWindowAtUptoRow.holds Try.pinned (OpenSpec.upto fnExactWindowAtSpec)

/-- 'laws.FnExactReach', WHERE WHAT IT READS IS OF BULK AT MOST 1048576: true; the input reads as it did. -/
def fnExactReachUptoRow : OpenClaim := { program := "ytampcamihaleaaa", sum := "bf2d8b5b4a9f888726ea61edf15426c4b0943e9c6b851d88a9a136fddffe668d", func := "loop.example/g00076/laws.FnExactReach", spec := "fnExactReach", unfollowed := true, recurses := true, apart := false, narrowed := true }
def FnExactReachUptoSaid : Prop := fnExactReachUptoRow.holds Try.pinned (OpenSpec.upto fnExactReachSpec)

/-- 'laws.FnExactFaultAt', WHERE WHAT IT READS IS OF BULK AT MOST 1048576: true; the input reads as it did. -/
def fnExactFaultAtUptoRow : OpenClaim := { program := "ytampcamihaleaaa", sum := "bf2d8b5b4a9f888726ea61edf15426c4b0943e9c6b851d88a9a136fddffe668d", func := "loop.example/g00076/laws.FnExactFaultAt", spec := "fnExactFaultAt", unfollowed := true, recurses := true, apart := false, narrowed := true }
def FnExactFaultAtUptoSaid : Prop := fnExactFaultAtUptoRow.holds Try.pinned (OpenSpec.upto fnExactFaultAtSpec)

/-- 'laws.FnExactKept', WHERE WHAT IT READS IS OF BULK AT MOST 1048576: true; the input reads as it did. -/
def fnExactKeptUptoRow : OpenClaim := { program := "ytampcamihaleaaa", sum := "bf2d8b5b4a9f888726ea61edf15426c4b0943e9c6b851d88a9a136fddffe668d", func := "loop.example/g00076/laws.FnExactKept", spec := "fnExactKept", unfollowed := true, recurses := true, apart := false, narrowed := true }
def FnExactKeptUptoSaid : Prop := fnExactKeptUptoRow.holds Try.pinned (OpenSpec.upto fnExactKeptSpec)

/-- 'laws.FnWindows', WHERE WHAT IT READS IS OF BULK AT MOST 1048576: true; the input reads as it did. -/
def fnWindowsUptoRow : OpenClaim := { program := "ytampcamihaleaaa", sum := "bf2d8b5b4a9f888726ea61edf15426c4b0943e9c6b851d88a9a136fddffe668d", func := "loop.example/g00076/laws.FnWindows", spec := "fnWindows", unfollowed := true, recurses := true, apart := false, narrowed := true }
def FnWindowsUptoSaid : Prop := fnWindowsUptoRow.holds Try.pinned (OpenSpec.upto fnWindowsSpec)

end Rows
end Go.Proofs.Ytampcamihaleaaa
