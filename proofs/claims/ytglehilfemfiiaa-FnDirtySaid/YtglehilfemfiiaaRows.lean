/-
  No cell of these rows narrows 'for every input' (looked for: loops, veiled, ifaces, maps, wideKeys, modest, calm, conditions, laid).
  DERIVED. THE GIVEN ROWS OF THIS SEAT. 7 by the template 'for every input the law returns true; each argument reads behind the call as it read before'; 0 by the template 'total and deterministic' (their statements: YtglehilfemfiiaaTotals.lean).
  GIVEN WITH THE SEED: the statements are not yours to turn. If you find one false, say at which input.
  Laid BY PROGRAM, IN A SANDBOX (cutbox-rows.mjs): the forced cells as the released guide's own fill.sh prints them over the translation f2b94f212700259e… (all of the seat's roots in one cut). By AI agents, Wed Nov 11 2026. No macro, syntax, notation, axiom, sorry.
-/
import Derived.Test.YtglehilfemfiiaaChecked
import GoSem.Claim
import GoSem.ClaimJoined
import GoSem.ClaimMapViews
import Derived.JoinedTies
import Derived.KernelRfl
namespace Go.Proofs.Ytglehilfemfiiaa
/- THE CELL 'sum', in the pinned program and in every row, IS THE sha256 OF THE DUMP (.gsa) THAT YtglehilfemfiiaaProg.lean LOADS. Nothing in Lean hashes anything: it is a label: what it is worth is what the hold of that sum in a sandbox is worth. -/
noncomputable def Try.pinned : Pinned := { name := "ytglehilfemfiiaa", sum := "f2b94f212700259e8d6485394777abb20d2fa59c774df122e132d68a002d16da", checked := Try.checked }
namespace Rows
def none {H : Type} : Left H := { results := [], args := [] }

/-- 'laws.FnRecent': WHATEVER THE INPUT: true; the input reads as it did. -/
def fnRecentSpec : ChangeSpec := { name := "fnRecent", fn := fun _ => fun
  | [d] => { results := [.lit (.bool true)], args := [d] }
  | _ => none }
def fnRecentRow : OpenClaim := { program := "ytglehilfemfiiaa", sum := "f2b94f212700259e8d6485394777abb20d2fa59c774df122e132d68a002d16da", func := "loop.example/g00076/laws.FnRecent", spec := "fnRecent", inPlace := ["slices.overlaps[loop.example/g00076/impl.Way]"], unfollowed := true, recurses := true, apart := false }
def FnRecentSaid : Prop := fnRecentRow.holds Try.pinned (OpenSpec.ofChange fnRecentSpec)

/-- ITS FALSE NEIGHBOUR: 'it returns false'. Refute it at one input. -/
def fnRecentWrong : ChangeSpec := { name := "fnRecent", fn := fun _ => fun
  | [d] => { results := [.lit (.bool false)], args := [d] }
  | _ => none }
def FnRecentWrongFalsely : Prop := fnRecentRow.holds Try.pinned (OpenSpec.ofChange fnRecentWrong)

/-- 'laws.FnExactTlbUse': WHATEVER THE INPUT: true; the input reads as it did. -/
def fnExactTlbUseSpec : ChangeSpec := { name := "fnExactTlbUse", fn := fun _ => fun
  | [d1, d2] => { results := [.lit (.bool true)], args := [d1, d2] }
  | _ => none }
def fnExactTlbUseRow : OpenClaim := { program := "ytglehilfemfiiaa", sum := "f2b94f212700259e8d6485394777abb20d2fa59c774df122e132d68a002d16da", func := "loop.example/g00076/laws.FnExactTlbUse", spec := "fnExactTlbUse", apart := false }
def FnExactTlbUseSaid : Prop := fnExactTlbUseRow.holds Try.pinned (OpenSpec.ofChange fnExactTlbUseSpec)

/-- ITS FALSE NEIGHBOUR: 'it returns false'. Refute it at one input. -/
def fnExactTlbUseWrong : ChangeSpec := { name := "fnExactTlbUse", fn := fun _ => fun
  | [d1, d2] => { results := [.lit (.bool false)], args := [d1, d2] }
  | _ => none }
def FnExactTlbUseWrongFalsely : Prop := fnExactTlbUseRow.holds Try.pinned (OpenSpec.ofChange fnExactTlbUseWrong)

/-- 'laws.FnPages': WHATEVER THE INPUT: true; the input reads as it did. -/
def fnPagesSpec : ChangeSpec := { name := "fnPages", fn := fun _ => fun
  | [d] => { results := [.lit (.bool true)], args := [d] }
  | _ => none }
def fnPagesRow : OpenClaim := { program := "ytglehilfemfiiaa", sum := "f2b94f212700259e8d6485394777abb20d2fa59c774df122e132d68a002d16da", func := "loop.example/g00076/laws.FnPages", spec := "fnPages", unfollowed := true, recurses := true, apart := false }
def FnPagesSaid : Prop := fnPagesRow.holds Try.pinned (OpenSpec.ofChange fnPagesSpec)

/-- ITS FALSE NEIGHBOUR: 'it returns false'. Refute it at one input. -/
def fnPagesWrong : ChangeSpec := { name := "fnPages", fn := fun _ => fun
  | [d] => { results := [.lit (.bool false)], args := [d] }
  | _ => none }
def FnPagesWrongFalsely : Prop := fnPagesRow.holds Try.pinned (OpenSpec.ofChange fnPagesWrong)

/-- 'laws.FnWays': WHATEVER THE INPUT: true; the input reads as it did. -/
def fnWaysSpec : ChangeSpec := { name := "fnWays", fn := fun _ => fun
  | [d] => { results := [.lit (.bool true)], args := [d] }
  | _ => none }
def fnWaysRow : OpenClaim := { program := "ytglehilfemfiiaa", sum := "f2b94f212700259e8d6485394777abb20d2fa59c774df122e132d68a002d16da", func := "loop.example/g00076/laws.FnWays", spec := "fnWays", inPlace := ["slices.overlaps[loop.example/g00076/impl.Way]"], unfollowed := true, recurses := true, apart := false }
def FnWaysSaid : Prop := fnWaysRow.holds Try.pinned (OpenSpec.ofChange fnWaysSpec)

/-- ITS FALSE NEIGHBOUR: 'it returns false'. Refute it at one input. -/
def fnWaysWrong : ChangeSpec := { name := "fnWays", fn := fun _ => fun
  | [d] => { results := [.lit (.bool false)], args := [d] }
  | _ => none }
def FnWaysWrongFalsely : Prop := fnWaysRow.holds Try.pinned (OpenSpec.ofChange fnWaysWrong)

/-- 'laws.FnExactCacheRun': WHATEVER THE INPUT: true; the input reads as it did. -/
def fnExactCacheRunSpec : ChangeSpec := { name := "fnExactCacheRun", fn := fun _ => fun
  | [d1, d2] => { results := [.lit (.bool true)], args := [d1, d2] }
  | _ => none }
def fnExactCacheRunRow : OpenClaim := { program := "ytglehilfemfiiaa", sum := "f2b94f212700259e8d6485394777abb20d2fa59c774df122e132d68a002d16da", func := "loop.example/g00076/laws.FnExactCacheRun", spec := "fnExactCacheRun", inPlace := ["slices.overlaps[loop.example/g00076/impl.Way]"], unfollowed := true, recurses := true, apart := false }
def FnExactCacheRunSaid : Prop := fnExactCacheRunRow.holds Try.pinned (OpenSpec.ofChange fnExactCacheRunSpec)

/-- ITS FALSE NEIGHBOUR: 'it returns false'. Refute it at one input. -/
def fnExactCacheRunWrong : ChangeSpec := { name := "fnExactCacheRun", fn := fun _ => fun
  | [d1, d2] => { results := [.lit (.bool false)], args := [d1, d2] }
  | _ => none }
def FnExactCacheRunWrongFalsely : Prop := fnExactCacheRunRow.holds Try.pinned (OpenSpec.ofChange fnExactCacheRunWrong)

/-- 'laws.FnExactCacheUse': WHATEVER THE INPUT: true; the input reads as it did. -/
def fnExactCacheUseSpec : ChangeSpec := { name := "fnExactCacheUse", fn := fun _ => fun
  | [d1, d2, d3] => { results := [.lit (.bool true)], args := [d1, d2, d3] }
  | _ => none }
def fnExactCacheUseRow : OpenClaim := { program := "ytglehilfemfiiaa", sum := "f2b94f212700259e8d6485394777abb20d2fa59c774df122e132d68a002d16da", func := "loop.example/g00076/laws.FnExactCacheUse", spec := "fnExactCacheUse", inPlace := ["slices.overlaps[loop.example/g00076/impl.Way]"], unfollowed := true, recurses := true, apart := false }
def FnExactCacheUseSaid : Prop := fnExactCacheUseRow.holds Try.pinned (OpenSpec.ofChange fnExactCacheUseSpec)

/-- ITS FALSE NEIGHBOUR: 'it returns false'. Refute it at one input. -/
def fnExactCacheUseWrong : ChangeSpec := { name := "fnExactCacheUse", fn := fun _ => fun
  | [d1, d2, d3] => { results := [.lit (.bool false)], args := [d1, d2, d3] }
  | _ => none }
def FnExactCacheUseWrongFalsely : Prop := fnExactCacheUseRow.holds Try.pinned (OpenSpec.ofChange fnExactCacheUseWrong)

/-- 'laws.FnDirty': WHATEVER THE INPUT: true; the input reads as it did. -/
def fnDirtySpec : ChangeSpec := { name := "fnDirty", fn := fun _ => fun
  | [d] => { results := [.lit (.bool true)], args := [d] }
  | _ => none }
def fnDirtyRow : OpenClaim := { program := "ytglehilfemfiiaa", sum := "f2b94f212700259e8d6485394777abb20d2fa59c774df122e132d68a002d16da", func := "loop.example/g00076/laws.FnDirty", spec := "fnDirty", inPlace := ["slices.overlaps[loop.example/g00076/impl.Way]"], unfollowed := true, recurses := true, apart := false }
def FnDirtySaid : Prop := fnDirtyRow.holds Try.pinned (OpenSpec.ofChange fnDirtySpec)

/-- ITS FALSE NEIGHBOUR: 'it returns false'. Refute it at one input. -/
def fnDirtyWrong : ChangeSpec := { name := "fnDirty", fn := fun _ => fun
  | [d] => { results := [.lit (.bool false)], args := [d] }
  | _ => none }
def FnDirtyWrongFalsely : Prop := fnDirtyRow.holds Try.pinned (OpenSpec.ofChange fnDirtyWrong)

/- THE SECOND FORM. 'bulk': how many values and letters a reading holds, each counted each time it is reached (what is shared counts as often as it is met; a slice's spare places count too). A statement '..UptoSaid' is the law's where the arguments, and the package variables that the reading takes, are together of bulk at most 1048576: NARROWER than '..Said'. Prove '..Said' where nothing that the law and all that it calls make is longer than what came in: it says more and counts as full. Else prove '..UptoSaid'. A law counts once. -/
mutual
def uptoBulk {H : Type} : DataW H → Nat
  | .lit (.string bytes) => bytes.length + 1
  | .lit _ => 1
  | .nil => 1
  | .ptr d => uptoBulk d + 1
  | .slice elems spare => uptoBulkAll elems + uptoBulkAll spare + 1
  | .agg parts => uptoBulkAll parts + 1
  | .iface _ d => uptoBulk d + 1
  | .map entries => uptoBulkEntries entries + 1
  | .held _ => 1
def uptoBulkAll {H : Type} : List (DataW H) → Nat
  | [] => 0
  | d :: r => uptoBulk d + uptoBulkAll r
def uptoBulkEntries {H : Type} : List (Lit × DataW H) → Nat
  | [] => 0
  | x :: r => uptoBulkEntry x + uptoBulkEntries r
def uptoBulkEntry {H : Type} : Lit × DataW H → Nat
  | (.string bytes, d) => bytes.length + uptoBulk d + 1
  | (_, d) => uptoBulk d + 1
 end
def uptoSmall : (H : Type) → List (DataW H) → Bool := fun _ ds => decide (uptoBulkAll ds ≤ 1048576)
def OpenSpec.upto (s : _root_.Go.ChangeSpec) : _root_.Go.OpenSpec := { _root_.Go.OpenSpec.ofChange s with cond := some uptoSmall }

/-- 'laws.FnRecent', WHERE WHAT IT READS IS OF BULK AT MOST 1048576: true; the input reads as it did. -/
def fnRecentUptoRow : OpenClaim := { program := "ytglehilfemfiiaa", sum := "f2b94f212700259e8d6485394777abb20d2fa59c774df122e132d68a002d16da", func := "loop.example/g00076/laws.FnRecent", spec := "fnRecent", inPlace := ["slices.overlaps[loop.example/g00076/impl.Way]"], unfollowed := true, recurses := true, apart := false, narrowed := true }
def FnRecentUptoSaid : Prop := fnRecentUptoRow.holds Try.pinned (OpenSpec.upto fnRecentSpec)

/-- 'laws.FnExactTlbUse', WHERE WHAT IT READS IS OF BULK AT MOST 1048576: true; the input reads as it did. -/
def fnExactTlbUseUptoRow : OpenClaim := { program := "ytglehilfemfiiaa", sum := "f2b94f212700259e8d6485394777abb20d2fa59c774df122e132d68a002d16da", func := "loop.example/g00076/laws.FnExactTlbUse", spec := "fnExactTlbUse", apart := false, narrowed := true }
def FnExactTlbUseUptoSaid : Prop := fnExactTlbUseUptoRow.holds Try.pinned (OpenSpec.upto fnExactTlbUseSpec)

/-- 'laws.FnPages', WHERE WHAT IT READS IS OF BULK AT MOST 1048576: true; the input reads as it did. -/
def fnPagesUptoRow : OpenClaim := { program := "ytglehilfemfiiaa", sum := "f2b94f212700259e8d6485394777abb20d2fa59c774df122e132d68a002d16da", func := "loop.example/g00076/laws.FnPages", spec := "fnPages", unfollowed := true, recurses := true, apart := false, narrowed := true }
def FnPagesUptoSaid : Prop := fnPagesUptoRow.holds Try.pinned (OpenSpec.upto fnPagesSpec)

/-- 'laws.FnWays', WHERE WHAT IT READS IS OF BULK AT MOST 1048576: true; the input reads as it did. -/
def fnWaysUptoRow : OpenClaim := { program := "ytglehilfemfiiaa", sum := "f2b94f212700259e8d6485394777abb20d2fa59c774df122e132d68a002d16da", func := "loop.example/g00076/laws.FnWays", spec := "fnWays", inPlace := ["slices.overlaps[loop.example/g00076/impl.Way]"], unfollowed := true, recurses := true, apart := false, narrowed := true }
def FnWaysUptoSaid : Prop := fnWaysUptoRow.holds Try.pinned (OpenSpec.upto fnWaysSpec)

/-- 'laws.FnExactCacheRun', WHERE WHAT IT READS IS OF BULK AT MOST 1048576: true; the input reads as it did. -/
def fnExactCacheRunUptoRow : OpenClaim := { program := "ytglehilfemfiiaa", sum := "f2b94f212700259e8d6485394777abb20d2fa59c774df122e132d68a002d16da", func := "loop.example/g00076/laws.FnExactCacheRun", spec := "fnExactCacheRun", inPlace := ["slices.overlaps[loop.example/g00076/impl.Way]"], unfollowed := true, recurses := true, apart := false, narrowed := true }
def FnExactCacheRunUptoSaid : Prop := fnExactCacheRunUptoRow.holds Try.pinned (OpenSpec.upto fnExactCacheRunSpec)

/-- 'laws.FnExactCacheUse', WHERE WHAT IT READS IS OF BULK AT MOST 1048576: true; the input reads as it did. -/
def fnExactCacheUseUptoRow : OpenClaim := { program := "ytglehilfemfiiaa", sum := "f2b94f212700259e8d6485394777abb20d2fa59c774df122e132d68a002d16da", func := "loop.example/g00076/laws.FnExactCacheUse", spec := "fnExactCacheUse", inPlace := ["slices.overlaps[loop.example/g00076/impl.Way]"], unfollowed := true, recurses := true, apart := false, narrowed := true }
def FnExactCacheUseUptoSaid : Prop := fnExactCacheUseUptoRow.holds Try.pinned (OpenSpec.upto fnExactCacheUseSpec)

/-- 'laws.FnDirty', WHERE WHAT IT READS IS OF BULK AT MOST 1048576: true; the input reads as it did. -/
def fnDirtyUptoRow : OpenClaim := { program := "ytglehilfemfiiaa", sum := "f2b94f212700259e8d6485394777abb20d2fa59c774df122e132d68a002d16da", func := "loop.example/g00076/laws.FnDirty", spec := "fnDirty", inPlace := ["slices.overlaps[loop.example/g00076/impl.Way]"], unfollowed := true, recurses := true, apart := false, narrowed := true }
def FnDirtyUptoSaid : Prop := fnDirtyUptoRow.holds Try.pinned (OpenSpec.upto fnDirtySpec)

end Rows
end Go.Proofs.Ytglehilfemfiiaa
