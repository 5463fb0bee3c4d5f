/- The law FnExactEnter of the given program: whatever plain data it is called with, it returns true, and what came in reads afterwards as it read before. No condition. Out of the walk of its text and the pure statement. -/
import Derived.Test.YtbfongmegcgogaaRows
import Derived.Test.YtbfongmegcgogaaGHl
import Derived.Test.YtbfongmegcgogaaPureFnExactEnter
import Derived.Test.YtbfongmegcgogaaOpn
import Derived.WalkKit
import Derived.ProofKit
import Derived.OpenShut
import Derived.ShutString
import Derived.ChangeOld
import Derived.Below
import Derived.SizedLaws
import Derived.Carry
namespace Go.Proofs.Ytbfongmegcgogaa.fnExactEnter
open Go.ChangeShapes Go.WideShapes Go.ChangeAt Go.RowKit Go.Proofs.Ytbfongmegcgogaa Go.Proofs.YtbfongmegcgogaaW.PrintWords
open Go.ChangeMaps (open_string shut_string)
set_option linter.unusedVariables false
theorem own : ownKnob Try.prog.godebug = none := by kernel_rfl
theorem laidOut : laidOutB Try.prog = true := by kernel_rfl
set_option maxRecDepth 100000 in
theorem lifted (os : Os) (started : os.Started) (H : Type) (enc : TypeId × Value → H) :
    ReturnsInHanded {} Try.checked os 12 .any (Rows.fnExactEnterSpec.pre6 enc Try.prog Try.f12 Rows.fnExactEnterRow.domain false) (Rows.fnExactEnterSpec.post enc Try.prog Try.f12 false true false false) := by
  refine returnsInHanded_of_change_sized (C := Try.checked) own started (by kernel_rfl) Try.func12
    (ChangeSpec.witness6 (enc := enc) (C := Try.checked) false ⟨#[], #[.agg #[.bool false, .int .u32 0, .int .u32 0, .int .u32 0, .int .u32 0, .bool false, .bool false, .int .u32 0], .int .i64 0, .int .u32 0], []⟩ 8 (by kernel_rfl) (by kernel_rfl) (by kernel_rfl) (by kernel_rfl)) ?_
  intro W base args ds gs before hval0 hW hcnd hsz0 _
  have hval : ∀ (j : Nat) t v, Try.f12.params[j]? = some t → args[j]? = some v → Value.okWide Try.prog W .any base t v := hval0
  have hW' := hW
  obtain ⟨p, q, hA0, hV, rfl, hfz, hnd⟩ := hW
  have hA : DataW.TrodAll enc Try.prog W 0 (fun _ => true) true Try.f12.params.toList args.toList ds p := hA0
  rw [Try.params12] at hA hval
  obtain ⟨v0, vs0, d0, ds0, p0, q0, hargs, rfl, rfl, h0, r0⟩ := trodAll_cons hA
  obtain ⟨v1, vs1, d1, ds1, p1, q1, rfl, rfl, rfl, h1, r1⟩ := trodAll_cons r0
  obtain ⟨v2, vs2, d2, ds2, p2, q2, rfl, rfl, rfl, h2, r2⟩ := trodAll_cons r1
  obtain ⟨rfl, rfl, rfl⟩ := trodAll_nil r2
  obtain rfl : args = #[v0, v1, v2] := by cases args; simp_all
  obtain ⟨rfl, rfl⟩ := trodVars_none hV
  have k0 := h0
  have lt0 : ∀ x ∈ p0, x.block < W.heap.size := by obtain ⟨m, hm⟩ := k0; exact DataW.trod_lt m _ _ _ hm
  obtain ⟨y0, hK0, hg0⟩ := Opn.opens_trod (Opn.opens_struct Try.underlying53 rfl (by kernel_rfl) (Opn.opensF_cons rfl (by kernel_rfl) (Opn.opens_bool Try.underlying4) (Opn.opensF_cons rfl (by kernel_rfl) (Opn.opens_int Try.underlying48) (Opn.opensF_cons rfl (by kernel_rfl) (Opn.opens_int Try.underlying48) (Opn.opensF_cons rfl (by kernel_rfl) (Opn.opens_int Try.underlying48) (Opn.opensF_cons rfl (by kernel_rfl) (Opn.opens_int Try.underlying48) (Opn.opensF_cons rfl (by kernel_rfl) (Opn.opens_bool Try.underlying4) (Opn.opensF_cons rfl (by kernel_rfl) (Opn.opens_bool Try.underlying4) (Opn.opensF_one rfl (by kernel_rfl) (Opn.opens_int Try.underlying48)))))))))) h0
  obtain ⟨z0, hz0⟩ : ∃ z, z = v0.cells.toList := ⟨_, rfl⟩
  rw [← hz0] at hK0
  obtain ⟨_, _, rfl, rfl, ⟨_, _, rfl, rfl, ⟨_, _, rfl, rfl, ⟨_, _, rfl, rfl, ⟨_, _, rfl, rfl, ⟨_, _, rfl, rfl, ⟨_, _, rfl, rfl, rfl⟩⟩⟩⟩⟩⟩⟩ := hK0
  obtain rfl := Opn.agg_cells (cs := [.bool y0.1, .int .u32 y0.2.1, .int .u32 y0.2.2.1, .int .u32 y0.2.2.2.1, .int .u32 y0.2.2.2.2.1, .bool y0.2.2.2.2.2.1, .bool y0.2.2.2.2.2.2.1, .int .u32 y0.2.2.2.2.2.2.2]) Try.underlying53 (hval 0 53 v0 rfl rfl) hz0.symm
  clear hz0
  obtain ⟨a1, rfl, rfl, rfl, w1⟩ := open_int Try.underlying3 (hval 1 3 v1 rfl rfl) h1
  obtain ⟨a2, rfl, rfl, rfl, w2⟩ := open_int Try.underlying48 (hval 2 48 v2 rfl rfl) h2
  clear hA0 hval0 hsz0
  have hf := Pure.FnExactEnter y0.1 y0.2.1 y0.2.2.1 y0.2.2.2.1 y0.2.2.2.2.1 y0.2.2.2.2.2.1 y0.2.2.2.2.2.2.1 y0.2.2.2.2.2.2.2 a1 a2 (hg0.2.1) (hg0.2.2.1) (hg0.2.2.2.1) (hg0.2.2.2.2.1) (hg0.2.2.2.2.2.2.2) (w1) (w2)
  refine (GH.laws_FnExactEnter.calls y0.1 y0.2.1 y0.2.2.1 y0.2.2.2.1 y0.2.2.2.2.1 y0.2.2.2.2.2.1 y0.2.2.2.2.2.2.1 y0.2.2.2.2.2.2.2 a1 a2 W  hf).mono ?_
  rintro e W' ⟨rfl, bel⟩
  exact ⟨_, rfl, _, _, _, [], _, [], hW', trodAll_mk1 (shut_bool Try.underlying4 _), (trodAll_cons_mk (Below.trod laidOut (by kernel_rfl) (of_decide_eq_true (by kernel_rfl)) k0 bel lt0) (trodAll_cons_mk (shut_int Try.underlying3 w1) (trodAll_cons_mk (shut_int Try.underlying48 w2) trodAll_mk0))), rfl, bel.frame _, fun h => by cases h⟩
theorem over : Rows.fnExactEnterRow.holds Try.pinned (OpenSpec.ofChange Rows.fnExactEnterSpec) :=
  OpenClaim.holds_of_wide 12 Try.f12 rfl rfl rfl rfl rfl rfl rfl ⟨rfl, rfl, rfl, rfl, rfl⟩ rfl rfl rfl rfl rfl (by kernel_rfl) Try.func12 (by kernel_rfl)
    (of_decide_eq_true (by kernel_rfl)) (by unfold Func.isWrapper; first | (rw [if_pos (by decide +kernel)]; kernel_rfl) | (rw [if_neg (by decide +kernel)]; exact ⟨rfl, rfl⟩))
    (fun os started H enc _ => lifted os started H enc)
theorem proved : Rows.FnExactEnterSaid := over
#print axioms proved
end Go.Proofs.Ytbfongmegcgogaa.fnExactEnter
namespace Go.Proofs.Ytbfongmegcgogaa
/-- The row, under a short name, for the claim. -/
theorem fnExactEnter_holds : Rows.FnExactEnterSaid := fnExactEnter.proved
end Go.Proofs.Ytbfongmegcgogaa
