/- The law FnExactRegSet of the given program: whatever plain data it is called with, it returns true, and what came in reads afterwards as it read before. No condition. Out of the walk of its text and the pure statement. -/
import Derived.Test.YtbcpkigeginmnaaRows
import Derived.Test.YtbcpkigeginmnaaLrsF
import Derived.Test.YtbcpkigeginmnaaPureFnExactRegSet
import Derived.Test.YtbcpkigeginmnaaOpn
import Derived.WalkKit
import Derived.ProofKit
import Derived.OpenShut
import Derived.ShutString
import Derived.ChangeOld
import Derived.Below
import Derived.SizedLaws
import Derived.Carry
namespace Go.Proofs.Ytbcpkigeginmnaa.fnExactRegSet
open Go.ChangeShapes Go.WideShapes Go.ChangeAt Go.RowKit Go.Proofs.Ytbcpkigeginmnaa Go.Proofs.YtbcpkigeginmnaaW.PrintWords
open Go.ChangeMaps (open_string shut_string)
set_option linter.unusedVariables false
theorem own : ownKnob Try.prog.godebug = none := by kernel_rfl
theorem laidOut : laidOutB Try.prog = true := by kernel_rfl
set_option maxRecDepth 100000 in
theorem lifted (os : Os) (started : os.Started) (H : Type) (enc : TypeId × Value → H) :
    ReturnsInHanded {} Try.checked os 3 .any (Rows.fnExactRegSetSpec.pre6 enc Try.prog Try.f3 Rows.fnExactRegSetRow.domain false) (Rows.fnExactRegSetSpec.post enc Try.prog Try.f3 false true false false) := by
  refine returnsInHanded_of_change_sized (C := Try.checked) own started (by kernel_rfl) Try.func3
    (ChangeSpec.witness6 (enc := enc) (C := Try.checked) false ⟨#[], #[.agg #[.slice none 0 0, .int .u32 0, .slice none 0 0], .int .i64 0, .int .u32 0], []⟩ 8 (by kernel_rfl) (by kernel_rfl) (by kernel_rfl) (by kernel_rfl)) ?_
  intro W base args ds gs before hval0 hW hcnd hsz0 _
  have hval : ∀ (j : Nat) t v, Try.f3.params[j]? = some t → args[j]? = some v → Value.okWide Try.prog W .any base t v := hval0
  have hW' := hW
  obtain ⟨p, q, hA0, hV, rfl, hfz, hnd⟩ := hW
  have hA : DataW.TrodAll enc Try.prog W 0 (fun _ => true) true Try.f3.params.toList args.toList ds p := hA0
  rw [Try.params3] at hA hval
  obtain ⟨v0, vs0, d0, ds0, p0, q0, hargs, rfl, rfl, h0, r0⟩ := trodAll_cons hA
  obtain ⟨v1, vs1, d1, ds1, p1, q1, rfl, rfl, rfl, h1, r1⟩ := trodAll_cons r0
  obtain ⟨v2, vs2, d2, ds2, p2, q2, rfl, rfl, rfl, h2, r2⟩ := trodAll_cons r1
  obtain ⟨rfl, rfl, rfl⟩ := trodAll_nil r2
  obtain rfl : args = #[v0, v1, v2] := by cases args; simp_all
  obtain ⟨rfl, rfl⟩ := trodVars_none hV
  have k0 := h0
  have lt0 : ∀ x ∈ p0, x.block < W.heap.size := by obtain ⟨m, hm⟩ := k0; exact DataW.trod_lt m _ _ _ hm
  obtain ⟨y0, hK0, hg0⟩ := Opn.opens_trod (Opn.opens_struct Try.underlying26 rfl (by kernel_rfl) (Opn.opensF_cons rfl (by kernel_rfl) (Opn.opens_slice Try.underlying22 (by kernel_rfl) (Opn.opens_int Try.underlying23)) (Opn.opensF_cons rfl (by kernel_rfl) (Opn.opens_int Try.underlying23) (Opn.opensF_one rfl (by kernel_rfl) (Opn.opens_slice Try.underlying24 (by kernel_rfl) (Opn.opens_slice Try.underlying68 (by kernel_rfl) (Opn.opens_int Try.underlying5))))))) h0
  obtain ⟨z0, hz0⟩ : ∃ z, z = v0.cells.toList := ⟨_, rfl⟩
  rw [← hz0] at hK0
  obtain ⟨_, _, rfl, ⟨A0_0, c0_0, rfl, hc0_0, hr0_0⟩, ⟨_, _, rfl, rfl, ⟨A0_2, c0_2, rfl, hc0_2, hr0_2⟩⟩⟩ := hK0
  obtain rfl := Opn.agg_cells (cs := [.slice A0_0 y0.1.length c0_0, .int .u32 y0.2.1, .slice A0_2 y0.2.2.length c0_2]) Try.underlying26 (hval 0 26 v0 rfl rfl) hz0.symm
  clear hz0
  obtain ⟨a1, rfl, rfl, rfl, w1⟩ := open_int Try.underlying3 (hval 1 3 v1 rfl rfl) h1
  obtain ⟨a2, rfl, rfl, rfl, w2⟩ := open_int Try.underlying23 (hval 2 23 v2 rfl rfl) h2
  clear hA0 hval0 hsz0
  obtain ⟨k, hf⟩ := Pure.FnExactRegSet y0.1 y0.2.1 y0.2.2 a1 a2 (hg0.1) (hg0.2.1) (hg0.2.2) (w1) (w2)
  refine (GF.laws_FnExactRegSet.calls k _ _ y0.1 y0.2.1 _ _ y0.2.2 a1 a2 W hr0_0 hc0_0 hr0_2 hc0_2 hf).mono ?_
  rintro e W' ⟨rfl, bel⟩
  exact ⟨_, rfl, _, _, _, [], _, [], hW', trodAll_mk1 (shut_bool Try.underlying4 _), (trodAll_cons_mk (Below.trod laidOut (by kernel_rfl) (of_decide_eq_true (by kernel_rfl)) k0 bel lt0) (trodAll_cons_mk (shut_int Try.underlying3 w1) (trodAll_cons_mk (shut_int Try.underlying23 w2) trodAll_mk0))), rfl, bel.frame _, fun h => by cases h⟩
theorem over : Rows.fnExactRegSetRow.holds Try.pinned (OpenSpec.ofChange Rows.fnExactRegSetSpec) :=
  OpenClaim.holds_of_wide 3 Try.f3 rfl rfl rfl rfl rfl rfl rfl ⟨rfl, rfl, rfl, rfl, rfl⟩ rfl rfl rfl rfl rfl (by kernel_rfl) Try.func3 (by kernel_rfl)
    (of_decide_eq_true (by kernel_rfl)) (by unfold Func.isWrapper; first | (rw [if_pos (by decide +kernel)]; kernel_rfl) | (rw [if_neg (by decide +kernel)]; exact ⟨rfl, rfl⟩))
    (fun os started H enc _ => lifted os started H enc)
theorem proved : Rows.FnExactRegSetSaid := over
#print axioms proved
end Go.Proofs.Ytbcpkigeginmnaa.fnExactRegSet
namespace Go.Proofs.Ytbcpkigeginmnaa
/-- The row, under a short name, for the claim. -/
theorem fnExactRegSet_holds : Rows.FnExactRegSetSaid := fnExactRegSet.proved
end Go.Proofs.Ytbcpkigeginmnaa
