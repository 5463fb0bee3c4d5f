/- The law FnExactDue of the given program: whatever plain data it is called with, it returns true, and what came in reads afterwards as it read before. No condition. Out of the walk of its text and the pure statement. -/
import Derived.Test.YtnegmikmcccaeaaDoorRows
import Derived.Test.YtnegmikmcccaeaaDoorGTx5
import Derived.Test.YtnegmikmcccaeaaDoorPureFnExactDue
import Derived.Test.YtnegmikmcccaeaaDoorOpn
import Derived.WalkKit
import Derived.ProofKit
import Derived.Test.YtnegmikmcccaeaaDoorCards
import Derived.Test.YtnegmikmcccaeaaDoorTie
import Derived.SevenTiedAt
import Derived.Lib.LaidTab
import Derived.Stop.Joined
import Derived.LaidMore
import Derived.OpenShut
import Derived.ShutString
import Derived.ChangeOld
import Derived.Below
import Derived.SizedLaws
import Derived.Carry
namespace Go.Proofs.YtnegmikmcccaeaaDoor.fnExactDue
open Go.ChangeShapes Go.WideShapes Go.ChangeAt Go.RowKit Go.Proofs.YtnegmikmcccaeaaDoor Go.Proofs.YtnegmikmcccaeaaDoorW.PrintWords
open Go.ChangeMaps (open_string shut_string)
set_option linter.unusedVariables false
abbrev laid1 : List (String × DataW Unit) := [("math/bits.deBruijn32tab", Rows.laid_math_bits_deBruijn32tab)]
theorem gTab : Tryd.prog.globalNamed "math/bits.deBruijn32tab" = some 0 := by kernel_rfl
theorem tTab : (Tryd.prog.globals[0]?).map (·.type) = some 54 := by kernel_rfl
/-- The door's own heap meets the condition: closed facts. -/
theorem door_met (os : Os) (args : Array Value) : laidMetH Tryd.prog laid1 ((World.doorLaid Tryd.prog 400 os).forCall (fun _ _ => 0) ⟨#[], args, []⟩).memory :=
  laidMetH_of_parts3 (fuel := 8) (laidMet_of_run' 8 (by kernel_rfl) (by kernel_rfl)) (by kernel_rfl) (by kernel_rfl)
/-- What the condition gives the walk: the table, now and later. -/
theorem tabs_of {W : World} (h : laidMetH Tryd.prog laid1 W) : ∀ W', Below W.heap.size W W' → GT.TabAt W' := by
  rw [MakeChecks.laidMetH_plain _ _ _ (by kernel_rfl)] at h
  have hT : Lib.TabIs Tryd.prog W "math/bits.deBruijn32tab" .u8 (Lib.deBruijn32tab.map (fun n : Nat => (n : Int))) := Lib.tabIs_of_head gTab tTab Tryd.underlying54 Tryd.underlying5 (by kernel_rfl) (by kernel_rfl) h
  intro W' hb j hj
  have hc := hT.cell gTab j (by simpa [Lib.deBruijn32tab] using hj)
  have hl : Lib.deBruijn32tab.length = 32 := rfl
  have e : (Lib.deBruijn32tab.map (fun n : Nat => (n : Int))).getD j 0 = ((Lib.deBruijn32tab.getD j 0 : Nat) : Int) := by
    rw [List.getD_eq_getElem?_getD, List.getD_eq_getElem?_getD, List.getElem?_map, List.getElem?_eq_getElem (by omega)]
    rfl
  rw [e] at hc
  exact pw_cell_below hb hc
theorem own : ownKnob Tryd.prog.godebug = none := by kernel_rfl
theorem laidOut : laidOutB Tryd.prog = true := by kernel_rfl
set_option maxRecDepth 100000 in
theorem lifted (os : Os) (started : os.Started) (H : Type) (enc : TypeId × Value → H) :
    ReturnsInHanded {} Tryd.checked os 3 .any (fun w args => (Rows.fnExactDueSpec.pre enc Tryd.prog Tryd.f3 [] false w args ∧ laidMetH Tryd.prog laid1 w) ∧ sizedMet enc Tryd.prog Tryd.f3 (OpenSpec.ofChange Rows.fnExactDueSpec) false w args) (Rows.fnExactDueSpec.post enc Tryd.prog Tryd.f3 false true false false) := by
  refine returnsInHanded_of_change_and (C := Tryd.checked) (X := fun w _ => laidMetH Tryd.prog laid1 w) (fun _ _ _ hh h => h.of_heap hh) own started (by kernel_rfl) Tryd.func3
    (ChangeSpec.witness_shaped (enc := enc) (C := Tryd.checked) (os := os) (X := fun w _ => laidMetH Tryd.prog laid1 w) false (World.doorLaid Tryd.prog 400 os) #[.agg #[.bool false, .int .u32 0, .int .u32 0, .int .u32 0, .int .u32 0, .bool false, .bool false, .int .u32 0], .int .i64 0] 8 rfl (World.shaped_of_RefB (by kernel_rfl) (by kernel_rfl)) (by kernel_rfl) (by kernel_rfl) (by kernel_rfl) (door_met os _)) ?_
  intro W base args ds gs before hval0 hW hcnd hsz0 hL _
  have hval : ∀ (j : Nat) t v, Tryd.f3.params[j]? = some t → args[j]? = some v → Value.okWide Tryd.prog W .any base t v := hval0
  have hW' := hW
  obtain ⟨p, q, hA0, hV, rfl, hfz, hnd⟩ := hW
  have hA : DataW.TrodAll enc Tryd.prog W 0 (fun _ => true) true Tryd.f3.params.toList args.toList ds p := hA0
  rw [Tryd.params3] at hA hval
  obtain ⟨v0, vs0, d0, ds0, p0, q0, hargs, rfl, rfl, h0, r0⟩ := trodAll_cons hA
  obtain ⟨v1, vs1, d1, ds1, p1, q1, rfl, rfl, rfl, h1, r1⟩ := trodAll_cons r0
  obtain ⟨rfl, rfl, rfl⟩ := trodAll_nil r1
  obtain rfl : args = #[v0, v1] := by cases args; simp_all
  obtain ⟨rfl, rfl⟩ := trodVars_none hV
  have k0 := h0
  have lt0 : ∀ x ∈ p0, x.block < W.heap.size := by obtain ⟨m, hm⟩ := k0; exact DataW.trod_lt m _ _ _ hm
  obtain ⟨y0, hK0, hg0⟩ := Opn.opens_trod (Opn.opens_struct Tryd.underlying24 rfl (by kernel_rfl) (Opn.opensF_cons rfl (by kernel_rfl) (Opn.opens_bool Tryd.underlying4) (Opn.opensF_cons rfl (by kernel_rfl) (Opn.opens_int Tryd.underlying22) (Opn.opensF_cons rfl (by kernel_rfl) (Opn.opens_int Tryd.underlying22) (Opn.opensF_cons rfl (by kernel_rfl) (Opn.opens_int Tryd.underlying22) (Opn.opensF_cons rfl (by kernel_rfl) (Opn.opens_int Tryd.underlying22) (Opn.opensF_cons rfl (by kernel_rfl) (Opn.opens_bool Tryd.underlying4) (Opn.opensF_cons rfl (by kernel_rfl) (Opn.opens_bool Tryd.underlying4) (Opn.opensF_one rfl (by kernel_rfl) (Opn.opens_int Tryd.underlying22)))))))))) h0
  obtain ⟨z0, hz0⟩ : ∃ z, z = v0.cells.toList := ⟨_, rfl⟩
  rw [← hz0] at hK0
  obtain ⟨_, _, rfl, rfl, ⟨_, _, rfl, rfl, ⟨_, _, rfl, rfl, ⟨_, _, rfl, rfl, ⟨_, _, rfl, rfl, ⟨_, _, rfl, rfl, ⟨_, _, rfl, rfl, rfl⟩⟩⟩⟩⟩⟩⟩ := hK0
  obtain rfl := Opn.agg_cells (cs := [.bool y0.1, .int .u32 y0.2.1, .int .u32 y0.2.2.1, .int .u32 y0.2.2.2.1, .int .u32 y0.2.2.2.2.1, .bool y0.2.2.2.2.2.1, .bool y0.2.2.2.2.2.2.1, .int .u32 y0.2.2.2.2.2.2.2]) Tryd.underlying24 (hval 0 24 v0 rfl rfl) hz0.symm
  clear hz0
  obtain ⟨a1, rfl, rfl, rfl, w1⟩ := open_int Tryd.underlying3 (hval 1 3 v1 rfl rfl) h1
  clear hA0 hval0 hsz0
  obtain ⟨k, hf⟩ := Pure.FnExactDue y0.1 y0.2.1 y0.2.2.1 y0.2.2.2.1 y0.2.2.2.2.1 y0.2.2.2.2.2.1 y0.2.2.2.2.2.2.1 y0.2.2.2.2.2.2.2 a1 (hg0.2.1) (hg0.2.2.1) (hg0.2.2.2.1) (hg0.2.2.2.2.1) (hg0.2.2.2.2.2.2.2) (w1)
  refine (GT.laws_FnExactDue.calls k y0.1 y0.2.1 y0.2.2.1 y0.2.2.2.1 y0.2.2.2.2.1 y0.2.2.2.2.2.1 y0.2.2.2.2.2.2.1 y0.2.2.2.2.2.2.2 a1 W  (tabs_of hL) hf).mono ?_
  rintro e W' ⟨rfl, bel⟩
  exact ⟨_, rfl, _, _, _, [], _, [], hW', trodAll_mk1 (shut_bool Tryd.underlying4 _), (trodAll_cons_mk (Below.trod laidOut (by kernel_rfl) (of_decide_eq_true (by kernel_rfl)) k0 bel lt0) (trodAll_cons_mk (shut_int Tryd.underlying3 w1) trodAll_mk0)), rfl, bel.frame _, fun h => by cases h⟩
theorem over : Rows.fnExactDueRow.holds Tryd.pinned (OpenSpec.ofChange Rows.fnExactDueSpec) :=
  OpenClaim.holds_of_wide 3 Tryd.f3 rfl rfl rfl rfl rfl rfl rfl ⟨rfl, rfl, rfl, rfl, rfl⟩ rfl rfl rfl rfl rfl (by kernel_rfl) Tryd.func3 (by kernel_rfl)
    (of_decide_eq_true (by kernel_rfl)) (by unfold Func.isWrapper; first | (rw [if_pos (by decide +kernel)]; kernel_rfl) | (rw [if_neg (by decide +kernel)]; exact ⟨rfl, rfl⟩))
    (fun os started H enc _ => lifted os started H enc)
theorem card : Rows.FnExactDueCardSaid :=
  Claim7.holds_tied_plain_at .later [] [.data] true (true, "313342e5f39a0d48cf1eedb5e2d07b6a9f86bfbc63629b527275ea8e8dd3d987") false
    over (fun _ h => by cases h) (by kernel_rfl) (fun _ h => by cases h) fnExactDue_row_tie rfl ⟨rfl, rfl⟩ (by kernel_rfl) rfl
    (fun f fn hf hfn => by
      obtain rfl : f = 3 := Option.some.inj ((show Tryd.prog.funcNamed "loop.example/g00076/laws.FnExactDue" = some 3 by kernel_rfl).symm.trans hf) |>.symm
      obtain rfl : fn = Tryd.f3 := (Option.some.inj (Tryd.func3.symm.trans hfn)).symm
      exact ⟨by kernel_rfl, fun j t ht => by
        rw [Tryd.params3] at ht
        have hm : t ∈ [24, 3] := by simpa using Array.mem_of_getElem? ht
        have hall : ([24, 3].all fun u => !Tryd.prog.wantsStandIn u) = true := by kernel_rfl
        exact (show Tryd.prog.wantsStandIn t = false by simpa using List.all_eq_true.1 hall t hm)⟩)
    (by kernel_rfl)
theorem proved : Rows.FnExactDueCardSaid := card
#print axioms proved
end Go.Proofs.YtnegmikmcccaeaaDoor.fnExactDue
namespace Go.Proofs.YtnegmikmcccaeaaDoor
/-- The card, under a short name, for the claim. -/
theorem fnExactDue_holds : Rows.FnExactDueCardSaid := fnExactDue.proved
end Go.Proofs.YtnegmikmcccaeaaDoor
