/- The law FnExactBorder of the given program: whatever plain data it is called with, it returns true, and what came in reads afterwards as it read before. No condition. Out of the walk of its text and the pure statement. -/
import Derived.Test.YtioifcanipijhaaRows
import Derived.Test.YtioifcanipijhaaLboC
import Derived.Test.YtioifcanipijhaaPureFnExactBorder
import Derived.Test.YtioifcanipijhaaOpn
import Derived.WalkKit
import Derived.ProofKit
import Derived.OpenShut
import Derived.ShutString
import Derived.ChangeOld
import Derived.Below
import Derived.SizedLaws
import Derived.Carry
namespace Go.Proofs.Ytioifcanipijhaa.fnExactBorder
open Go.ChangeShapes Go.WideShapes Go.ChangeAt Go.RowKit Go.Proofs.Ytioifcanipijhaa Go.Proofs.YtioifcanipijhaaW.PrintWords
open Go.ChangeMaps (open_string shut_string)
set_option linter.unusedVariables false
theorem own : ownKnob Try.prog.godebug = none := by kernel_rfl
theorem laidOut : laidOutB Try.prog = true := by kernel_rfl
set_option maxRecDepth 100000 in
theorem lifted (os : Os) (started : os.Started) (H : Type) (enc : TypeId × Value → H) :
    ReturnsInHanded {} Try.checked os 9 .any (Rows.fnExactBorderSpec.pre6 enc Try.prog Try.f9 Rows.fnExactBorderRow.domain false) (Rows.fnExactBorderSpec.post enc Try.prog Try.f9 false true false false) := by
  refine returnsInHanded_of_change_sized (C := Try.checked) own started (by kernel_rfl) Try.func9
    (ChangeSpec.witness6 (enc := enc) (C := Try.checked) false ⟨#[], #[.agg #[.int .i64 0, .int .i64 0, .int .i64 0, .int .i64 0], .agg #[.int .i64 0, .slice none 0 0], .agg #[.slice none 0 0]], []⟩ 8 (by kernel_rfl) (by kernel_rfl) (by kernel_rfl) (by kernel_rfl)) ?_
  intro W base args ds gs before hval0 hW hcnd hsz0 _
  have hval : ∀ (j : Nat) t v, Try.f9.params[j]? = some t → args[j]? = some v → Value.okWide Try.prog W .any base t v := hval0
  have hW' := hW
  obtain ⟨p, q, hA0, hV, rfl, hfz, hnd⟩ := hW
  have hA : DataW.TrodAll enc Try.prog W 0 (fun _ => true) true Try.f9.params.toList args.toList ds p := hA0
  rw [Try.params9] at hA hval
  obtain ⟨v0, vs0, d0, ds0, p0, q0, hargs, rfl, rfl, h0, r0⟩ := trodAll_cons hA
  obtain ⟨v1, vs1, d1, ds1, p1, q1, rfl, rfl, rfl, h1, r1⟩ := trodAll_cons r0
  obtain ⟨v2, vs2, d2, ds2, p2, q2, rfl, rfl, rfl, h2, r2⟩ := trodAll_cons r1
  obtain ⟨rfl, rfl, rfl⟩ := trodAll_nil r2
  obtain rfl : args = #[v0, v1, v2] := by cases args; simp_all
  obtain ⟨rfl, rfl⟩ := trodVars_none hV
  have k0 := h0
  have lt0 : ∀ x ∈ p0, x.block < W.heap.size := by obtain ⟨m, hm⟩ := k0; exact DataW.trod_lt m _ _ _ hm
  obtain ⟨y0, hK0, hg0⟩ := Opn.opens_trod (Opn.opens_struct Try.underlying23 rfl (by kernel_rfl) (Opn.opensF_cons rfl (by kernel_rfl) (Opn.opens_int Try.underlying3) (Opn.opensF_cons rfl (by kernel_rfl) (Opn.opens_int Try.underlying3) (Opn.opensF_cons rfl (by kernel_rfl) (Opn.opens_int Try.underlying3) (Opn.opensF_one rfl (by kernel_rfl) (Opn.opens_int Try.underlying3)))))) h0
  obtain ⟨z0, hz0⟩ : ∃ z, z = v0.cells.toList := ⟨_, rfl⟩
  rw [← hz0] at hK0
  obtain ⟨_, _, rfl, rfl, ⟨_, _, rfl, rfl, ⟨_, _, rfl, rfl, rfl⟩⟩⟩ := hK0
  obtain rfl := Opn.agg_cells (cs := [.int .i64 y0.1, .int .i64 y0.2.1, .int .i64 y0.2.2.1, .int .i64 y0.2.2.2]) Try.underlying23 (hval 0 23 v0 rfl rfl) hz0.symm
  clear hz0
  have k1 := h1
  have lt1 : ∀ x ∈ p1, x.block < W.heap.size := by obtain ⟨m, hm⟩ := k1; exact DataW.trod_lt m _ _ _ hm
  obtain ⟨y1, hK1, hg1⟩ := Opn.opens_trod (Opn.opens_struct Try.underlying36 rfl (by kernel_rfl) (Opn.opensF_cons rfl (by kernel_rfl) (Opn.opens_int Try.underlying3) (Opn.opensF_one rfl (by kernel_rfl) (Opn.opens_slice Try.underlying24 (by kernel_rfl) (Opn.opens_int Try.underlying46))))) h1
  obtain ⟨z1, hz1⟩ : ∃ z, z = v1.cells.toList := ⟨_, rfl⟩
  rw [← hz1] at hK1
  obtain ⟨_, _, rfl, rfl, ⟨A1_1, c1_1, rfl, hc1_1, hr1_1⟩⟩ := hK1
  obtain rfl := Opn.agg_cells (cs := [.int .i64 y1.1, .slice A1_1 y1.2.length c1_1]) Try.underlying36 (hval 1 36 v1 rfl rfl) hz1.symm
  clear hz1
  have k2 := h2
  have lt2 : ∀ x ∈ p2, x.block < W.heap.size := by obtain ⟨m, hm⟩ := k2; exact DataW.trod_lt m _ _ _ hm
  obtain ⟨y2, hK2, hg2⟩ := Opn.opens_trod (Opn.opens_struct Try.underlying26 rfl (by kernel_rfl) (Opn.opensF_one rfl (by kernel_rfl) (Opn.opens_slice Try.underlying24 (by kernel_rfl) (Opn.opens_int Try.underlying46)))) h2
  obtain ⟨z2, hz2⟩ : ∃ z, z = v2.cells.toList := ⟨_, rfl⟩
  rw [← hz2] at hK2
  obtain ⟨A2_0, c2_0, rfl, hc2_0, hr2_0⟩ := hK2
  obtain rfl := Opn.agg_cells (cs := [.slice A2_0 y2.length c2_0]) Try.underlying26 (hval 2 26 v2 rfl rfl) hz2.symm
  clear hz2
  clear hA0 hval0 hsz0
  have hf := Pure.FnExactBorder y0.1 y0.2.1 y0.2.2.1 y0.2.2.2 y1.1 y1.2 y2 (hg0.1) (hg0.2.1) (hg0.2.2.1) (hg0.2.2.2) (hg1.1) (hg1.2) (hg2)
  refine (GC.laws_FnExactBorder.calls y0.1 y0.2.1 y0.2.2.1 y0.2.2.2 y1.1 _ _ y1.2 _ _ y2 W hr1_1 hc1_1 hr2_0 hc2_0 hf).mono ?_
  rintro e W' ⟨rfl, bel⟩
  exact ⟨_, rfl, _, _, _, [], _, [], hW', trodAll_mk1 (shut_bool Try.underlying4 _), (trodAll_cons_mk (Below.trod laidOut (by kernel_rfl) (of_decide_eq_true (by kernel_rfl)) k0 bel lt0) (trodAll_cons_mk (Below.trod laidOut (by kernel_rfl) (of_decide_eq_true (by kernel_rfl)) k1 bel lt1) (trodAll_cons_mk (Below.trod laidOut (by kernel_rfl) (of_decide_eq_true (by kernel_rfl)) k2 bel lt2) trodAll_mk0))), rfl, bel.frame _, fun h => by cases h⟩
theorem over : Rows.fnExactBorderRow.holds Try.pinned (OpenSpec.ofChange Rows.fnExactBorderSpec) :=
  OpenClaim.holds_of_wide 9 Try.f9 rfl rfl rfl rfl rfl rfl rfl ⟨rfl, rfl, rfl, rfl, rfl⟩ rfl rfl rfl rfl rfl (by kernel_rfl) Try.func9 (by kernel_rfl)
    (of_decide_eq_true (by kernel_rfl)) (by unfold Func.isWrapper; first | (rw [if_pos (by decide +kernel)]; kernel_rfl) | (rw [if_neg (by decide +kernel)]; exact ⟨rfl, rfl⟩))
    (fun os started H enc _ => lifted os started H enc)
theorem proved : Rows.FnExactBorderSaid := over
#print axioms proved
end Go.Proofs.Ytioifcanipijhaa.fnExactBorder
namespace Go.Proofs.Ytioifcanipijhaa
/-- The row, under a short name, for the claim. -/
theorem fnExactBorder_holds : Rows.FnExactBorderSaid := fnExactBorder.proved
end Go.Proofs.Ytioifcanipijhaa
