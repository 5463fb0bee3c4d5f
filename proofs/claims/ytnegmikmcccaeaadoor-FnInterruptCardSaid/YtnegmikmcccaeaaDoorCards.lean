/-
  DERIVED. GIVEN WITH THE SEED: THE CARDS: each row of YtnegmikmcccaeaaDoorRows.lean that lists a variable, with what it lists TIED to the program's text (the seventh form; the later family's looks); each row that meets fmt, with fmt's text TOLD by the authors' own Lean function (tested against real Go, not proved from fmt's source: count such statements apart). THE CARD IS WHAT COUNTS. Prove the row's statement (the work); the ties are given (YtnegmikmcccaeaaDoorTie.lean); close each card by the builder's one call (the guide's Derived/Test/ToyasCard.lean, 'card_holds'). Laid BY PROGRAM, IN A SANDBOX (cutbox-door.mjs). By AI agents, Wed Nov 11 2026. No macro, syntax, notation, axiom, sorry.
-/
import Derived.Test.YtnegmikmcccaeaaDoorRows
import GoSem.ClaimSeven
namespace Go.Proofs.YtnegmikmcccaeaaDoor
namespace Rows

/-- THE TIED CARD OF 'laws.FnExactDue'. -/
def fnExactDueCard : Claim7 := { stood := { row := fnExactDueRow, standIns := [], harness := (true, "313342e5f39a0d48cf1eedb5e2d07b6a9f86bfbc63629b527275ea8e8dd3d987"), looks := false }, kinds := [], alts := [], laidByText := true, laidKinds := [.data], laidTests := true, laidLooks := .later }
def FnExactDueCardSaid : Prop := Claim7.holds Tryd.pinned (.plain (OpenSpec.ofChange fnExactDueSpec)) fnExactDueCard

/-- THE TIED CARD OF 'laws.FnTimer'. -/
def fnTimerCard : Claim7 := { stood := { row := fnTimerRow, standIns := [], harness := (true, "313342e5f39a0d48cf1eedb5e2d07b6a9f86bfbc63629b527275ea8e8dd3d987"), looks := false }, kinds := [], alts := [], laidByText := true, laidKinds := [.data], laidTests := true, laidLooks := .later }
def FnTimerCardSaid : Prop := Claim7.holds Tryd.pinned (.plain (OpenSpec.ofChange fnTimerSpec)) fnTimerCard

/-- THE TIED CARD OF 'laws.FnInterrupt'. -/
def fnInterruptCard : Claim7 := { stood := { row := fnInterruptRow, standIns := [], harness := (true, "313342e5f39a0d48cf1eedb5e2d07b6a9f86bfbc63629b527275ea8e8dd3d987"), looks := false }, kinds := [], alts := [], laidByText := true, laidKinds := [.data], laidTests := true, laidLooks := .later }
def FnInterruptCardSaid : Prop := Claim7.holds Tryd.pinned (.plain (OpenSpec.ofChange fnInterruptSpec)) fnInterruptCard

/-- THE SECOND FORM's CARD OF 'laws.FnExactDue'. -/
def fnExactDueUptoCard : Claim7 := { stood := { row := fnExactDueUptoRow, standIns := [], harness := (true, "313342e5f39a0d48cf1eedb5e2d07b6a9f86bfbc63629b527275ea8e8dd3d987"), looks := false }, kinds := [], alts := [], laidByText := true, laidKinds := [.data], laidTests := true, laidLooks := .later }
def FnExactDueUptoCardSaid : Prop := Claim7.holds Tryd.pinned (.plain (OpenSpec.upto fnExactDueSpec)) fnExactDueUptoCard

/-- THE SECOND FORM's CARD OF 'laws.FnTimer'. -/
def fnTimerUptoCard : Claim7 := { stood := { row := fnTimerUptoRow, standIns := [], harness := (true, "313342e5f39a0d48cf1eedb5e2d07b6a9f86bfbc63629b527275ea8e8dd3d987"), looks := false }, kinds := [], alts := [], laidByText := true, laidKinds := [.data], laidTests := true, laidLooks := .later }
def FnTimerUptoCardSaid : Prop := Claim7.holds Tryd.pinned (.plain (OpenSpec.upto fnTimerSpec)) fnTimerUptoCard

/-- THE SECOND FORM's CARD OF 'laws.FnInterrupt'. -/
def fnInterruptUptoCard : Claim7 := { stood := { row := fnInterruptUptoRow, standIns := [], harness := (true, "313342e5f39a0d48cf1eedb5e2d07b6a9f86bfbc63629b527275ea8e8dd3d987"), looks := false }, kinds := [], alts := [], laidByText := true, laidKinds := [.data], laidTests := true, laidLooks := .later }
def FnInterruptUptoCardSaid : Prop := Claim7.holds Tryd.pinned (.plain (OpenSpec.upto fnInterruptSpec)) fnInterruptUptoCard
end Rows
end Go.Proofs.YtnegmikmcccaeaaDoor
