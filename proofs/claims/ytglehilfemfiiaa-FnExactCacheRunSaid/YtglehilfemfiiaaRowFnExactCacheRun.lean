/- The law FnExactCacheRun of the given program: whatever plain data it is called with, it returns true, and what came in reads afterwards as it read before. No condition. Out of the walk of its text and the pure statement. -/
import Derived.Test.YtglehilfemfiiaaRows
import Derived.Test.YtglehilfemfiiaaGRx12
import Derived.Test.YtglehilfemfiiaaPureFnExactCacheRun
import Derived.Test.YtglehilfemfiiaaOpn
import Derived.WalkKit
import Derived.ProofKit
import Derived.OpenShut
import Derived.ShutString
import Derived.ChangeOld
import Derived.Below
import Derived.SizedLaws
import Derived.Carry
namespace Go.Proofs.Ytglehilfemfiiaa.fnExactCacheRun
open Go.ChangeShapes Go.WideShapes Go.ChangeAt Go.RowKit Go.Proofs.Ytglehilfemfiiaa Go.Proofs.YtglehilfemfiiaaW.PrintWords
open Go.ChangeMaps (open_string shut_string)
set_option linter.unusedVariables false
theorem own : ownKnob Try.prog.godebug = none := by kernel_rfl
theorem laidOut : laidOutB Try.prog = true := by kernel_rfl
set_option maxRecDepth 100000 in
theorem lifted (os : Os) (started : os.Started) (H : Type) (enc : TypeId × Value → H) :
    ReturnsInHanded {} Try.checked os 7 .any (Rows.fnExactCacheRunSpec.pre6 enc Try.prog Try.f7 Rows.fnExactCacheRunRow.domain false) (Rows.fnExactCacheRunSpec.post enc Try.prog Try.f7 false true false false) := by
  refine returnsInHanded_of_change_sized (C := Try.checked) own started (by kernel_rfl) Try.func7
    (ChangeSpec.witness6 (enc := enc) (C := Try.checked) false ⟨#[], #[.agg #[.int .i64 0, .int .i64 0, .int .i64 0], .slice none 0 0], []⟩ 8 (by kernel_rfl) (by kernel_rfl) (by kernel_rfl) (by kernel_rfl)) ?_
  intro W base args ds gs before hval0 hW hcnd hsz0 _
  have hval : ∀ (j : Nat) t v, Try.f7.params[j]? = some t → args[j]? = some v → Value.okWide Try.prog W .any base t v := hval0
  have hW' := hW
  obtain ⟨p, q, hA0, hV, rfl, hfz, hnd⟩ := hW
  have hA : DataW.TrodAll enc Try.prog W 0 (fun _ => true) true Try.f7.params.toList args.toList ds p := hA0
  rw [Try.params7] at hA hval
  obtain ⟨v0, vs0, d0, ds0, p0, q0, hargs, rfl, rfl, h0, r0⟩ := trodAll_cons hA
  obtain ⟨v1, vs1, d1, ds1, p1, q1, rfl, rfl, rfl, h1, r1⟩ := trodAll_cons r0
  obtain ⟨rfl, rfl, rfl⟩ := trodAll_nil r1
  obtain rfl : args = #[v0, v1] := by cases args; simp_all
  obtain ⟨rfl, rfl⟩ := trodVars_none hV
  have k0 := h0
  have lt0 : ∀ x ∈ p0, x.block < W.heap.size := by obtain ⟨m, hm⟩ := k0; exact DataW.trod_lt m _ _ _ hm
  obtain ⟨y0, hK0, hg0⟩ := Opn.opens_trod (Opn.opens_struct Try.underlying54 rfl (by kernel_rfl) (Opn.opensF_cons rfl (by kernel_rfl) (Opn.opens_int Try.underlying3) (Opn.opensF_cons rfl (by kernel_rfl) (Opn.opens_int Try.underlying3) (Opn.opensF_one rfl (by kernel_rfl) (Opn.opens_int Try.underlying3))))) h0
  obtain ⟨z0, hz0⟩ : ∃ z, z = v0.cells.toList := ⟨_, rfl⟩
  rw [← hz0] at hK0
  obtain ⟨_, _, rfl, rfl, ⟨_, _, rfl, rfl, rfl⟩⟩ := hK0
  obtain rfl := Opn.agg_cells (cs := [.int .i64 y0.1, .int .i64 y0.2.1, .int .i64 y0.2.2]) Try.underlying54 (hval 0 54 v0 rfl rfl) hz0.symm
  clear hz0
  have k1 := h1
  have lt1 : ∀ x ∈ p1, x.block < W.heap.size := by obtain ⟨m, hm⟩ := k1; exact DataW.trod_lt m _ _ _ hm
  obtain ⟨y1, hK1, hg1⟩ := Opn.opens_trod (Opn.opens_slice Try.underlying55 (by kernel_rfl) (Opn.opens_iso (fun x : GR.S104 => ((x.f0, x.f1))) (fun a => ⟨a.1, a.2⟩) (fun _ => rfl) (Opn.opens_struct Try.underlying104 rfl (by kernel_rfl) (Opn.opensF_cons rfl (by kernel_rfl) (Opn.opens_int Try.underlying3) (Opn.opensF_one rfl (by kernel_rfl) (Opn.opens_bool Try.underlying4)))))) h1
  obtain ⟨b1, len1, cap1, rfl⟩ := okWide_slice Try.underlying55 (hval 1 55 v1 rfl rfl)
  obtain ⟨A1, c1, hcs1, hc1, hr1⟩ := hK1
  obtain ⟨rfl, rfl, rfl⟩ : b1 = A1 ∧ len1 = y1.length ∧ cap1 = c1 := by simpa [Value.cells] using hcs1
  clear hA0 hval0 hsz0
  obtain ⟨k, hf⟩ := Pure.FnExactCacheRun y0.1 y0.2.1 y0.2.2 y1 (hg0.1) (hg0.2.1) (hg0.2.2) ⟨hg1.1, fun x hx => (hg1.2 x hx).1⟩
  refine (GR.laws_FnExactCacheRun.calls k y0.1 y0.2.1 y0.2.2 _ _ y1 W hr1 hc1 hf).mono ?_
  rintro e W' ⟨rfl, bel⟩
  exact ⟨_, rfl, _, _, _, [], _, [], hW', trodAll_mk1 (shut_bool Try.underlying4 _), (trodAll_cons_mk (Below.trod laidOut (by kernel_rfl) (of_decide_eq_true (by kernel_rfl)) k0 bel lt0) (trodAll_cons_mk (Below.trod laidOut (by kernel_rfl) (of_decide_eq_true (by kernel_rfl)) k1 bel lt1) trodAll_mk0)), rfl, bel.frame _, fun h => by cases h⟩
theorem over : Rows.fnExactCacheRunRow.holds Try.pinned (OpenSpec.ofChange Rows.fnExactCacheRunSpec) :=
  OpenClaim.holds_of_wide 7 Try.f7 rfl rfl rfl rfl rfl rfl rfl ⟨rfl, rfl, rfl, rfl, rfl⟩ rfl rfl rfl rfl rfl (by kernel_rfl) Try.func7 (by kernel_rfl)
    (of_decide_eq_true (by kernel_rfl)) (by unfold Func.isWrapper; first | (rw [if_pos (by decide +kernel)]; kernel_rfl) | (rw [if_neg (by decide +kernel)]; exact ⟨rfl, rfl⟩))
    (fun os started H enc _ => lifted os started H enc)
theorem proved : Rows.FnExactCacheRunSaid := over
#print axioms proved
end Go.Proofs.Ytglehilfemfiiaa.fnExactCacheRun
namespace Go.Proofs.Ytglehilfemfiiaa
/-- The row, under a short name, for the claim. -/
theorem fnExactCacheRun_holds : Rows.FnExactCacheRunSaid := fnExactCacheRun.proved
end Go.Proofs.Ytglehilfemfiiaa
