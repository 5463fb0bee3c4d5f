/- find, walked by hand: the row of an address and the place of its line in it. -/
import Derived.Test.YtglehilfemfiiaaGUx0
import Derived.Test.YtglehilfemfiiaaGUx1
import Derived.Test.YtglehilfemfiiaaCcaU
namespace Go.Proofs.Ytglehilfemfiiaa.GU
open Go.Shelf Go.RowKit Go.Proofs.YtglehilfemfiiaaW.PrintWords Go.Proofs.YtglehilfemfiiaaW.PrintLast Go.Proofs.YtglehilfemfiiaaW.PrintMore Go.Proofs.Ytglehilfemfiiaa.Q Go.Proofs.Ytglehilfemfiiaa.Hnd
set_option linter.unusedVariables false
set_option linter.unusedSimpArgs false
theorem cellq {W W' : World} {p : Addr} {v : Value} (h : W.cell? p = some v) [q : Quiet W W'] : W'.cell? p = some v := pw_cell_below q.go h
set_option maxHeartbeats 4000000 in
set_option maxRecDepth 100000 in
theorem find_calls (s0 s1 s2 a : Int) (A : Option Addr) (c : Nat) (rows : List (List S118)) (r : Nat) (w : World) (hr : Kd.C (Kd.slice 118 k118) w A rows.length rows) (h0 : s0 ≠ 0) (h2 : s2 ≠ 0) (hrow : Int.tmod (wrap64 (Int.tdiv a s2)) s0 = (r : Int)) (hlt : r < rows.length) :
    Calls Try.prog 93 #[.agg #[.int .i64 s0, .int .i64 s1, .int .i64 s2, .slice A rows.length c], .int .i64 a] w fun e w' => e = .returned (.tuple #[.int .i64 (r : Int), .int .i64 (idxW (tagB (wrap64 (Int.tdiv (wrap64 (Int.tdiv a s2)) s0))) (rd_L3 rows (r : Int)))]) ∧ Below w.heap.size w w' := by
  have hu70 := Try.underlying70
  obtain ⟨ad, A0, c0, rfl, hcell, hlc, hC⟩ := at_L3 hr (r : Int) (by omega) (by omega)
  rw [Int.toNat_natCast] at hcell
  have hblk := World.block_lt_of_cell? w _ hcell
  have HC := Aside0.mk hC
  have hltz : (r : Int) < (rows.length : Int) := by omega
  have hrz : 0 ≤ (r : Int) := by omega
  have h0b : (s0 == 0) = false := beq_eq_false_iff_ne.mpr h0
  have h2b : (s2 == 0) = false := beq_eq_false_iff_ne.mpr h2
  obtain ⟨line, hline⟩ : ∃ line, line = wrap64 (Int.tdiv a s2) := ⟨_, rfl⟩
  rw [← hline] at hrow ⊢
  have hline' := hline.symm
  clear hr hC hline
  go_enter Try.func93, Try.ntmps93
  go_wp2_with fail
  have HCE := Aside0.mk hcell
  go_region_held3 (fun w' => w'.cell? ⟨w.heap.size, 0, none⟩ = some (.int .i64 s0) ∧ w'.cell? ⟨w.heap.size, 2, none⟩ = some (.int .i64 s2) ∧ w'.cell? ⟨w.heap.size, 3, none⟩ = some (.slice (some ad) rows.length c) ∧ w'.cell? (ad.add r) = some (.slice A0 (rd_L3 rows (r : Int)).length c0)) (go_keep)
    ((go_at_call 106; rw [i64_w]; refine (wayIndex_calls A0 c0 (rd_L3 rows (r : Int)) (wrap64 (Int.tdiv line s0)) _ ?cc).mono ?_; (case cc => exact cq HC.out); rintro e w' ⟨rfl, hb'⟩; have HB1 := Aside0.mk hb'; have z0 : w'.cell? ⟨w.heap.size, 0, none⟩ = some (.int .i64 s0) := pw_cell_below hb' ((blk_cell (bq (blk_new w (.cells #[.int .i64 s0, .int .i64 s1, .int .i64 s2, .slice (some ad) rows.length c] 70 (0, 0)))) 0).trans rfl); have z2 : w'.cell? ⟨w.heap.size, 2, none⟩ = some (.int .i64 s2) := pw_cell_below hb' ((blk_cell (bq (blk_new w (.cells #[.int .i64 s0, .int .i64 s1, .int .i64 s2, .slice (some ad) rows.length c] 70 (0, 0)))) 2).trans rfl); have z3 : w'.cell? ⟨w.heap.size, 3, none⟩ = some (.slice (some ad) rows.length c) := pw_cell_below hb' ((blk_cell (bq (blk_new w (.cells #[.int .i64 s0, .int .i64 s1, .int .i64 s2, .slice (some ad) rows.length c] 70 (0, 0)))) 3).trans rfl); have z4 : w'.cell? (ad.add r) = some (.slice A0 (rd_L3 rows (r : Int)).length c0) := pw_cell_below hb' (cellq HCE.out)))
  go_wp2
  go_ret2
  exact ⟨rfl, ((((Fr.refl (fun _ => False) w).alloc _).drew).step HB1.out).below (fun _ h => h.elim) (Nat.le_refl _)⟩
/-- find, in the form of the print. -/
def impl_Cache_find.f (s0 s1 s2 : Int) (l : List (List S118)) (a : Int) : Option (Int × Int) :=
  if s0 ≠ 0 ∧ s2 ≠ 0 ∧ 0 ≤ Int.tmod (wrap64 (Int.tdiv a s2)) s0 ∧ Int.tmod (wrap64 (Int.tdiv a s2)) s0 < (l.length : Int) then some (Int.tmod (wrap64 (Int.tdiv a s2)) s0, idxW (tagB (wrap64 (Int.tdiv (wrap64 (Int.tdiv a s2)) s0))) (rd_L3 l (Int.tmod (wrap64 (Int.tdiv a s2)) s0))) else none
theorem impl_Cache_find.calls (a0_0 : Int) (a0_1 : Int) (a0_2 : Int) (A0_3 : Option Addr) (c0_3 : Nat) (l0_3 : List (List S118)) (a1 : Int) (r1 : Int) (r2 : Int) (w : World) (hr0_3 : Kd.C (Kd.slice 118 k118) w A0_3 l0_3.length l0_3) (hc0_3 : l0_3.length ≤ c0_3) (h : impl_Cache_find.f a0_0 a0_1 a0_2 l0_3 a1 = some (r1, r2)) :
    Calls Try.prog 93 #[.agg #[.int .i64 a0_0, .int .i64 a0_1, .int .i64 a0_2, .slice A0_3 l0_3.length c0_3], .int .i64 a1] w fun e w' => e = .returned (.tuple #[.int .i64 r1, .int .i64 r2]) ∧ Below w.heap.size w w' := by
  unfold impl_Cache_find.f at h
  split at h
  case isFalse => cases h
  case isTrue hc =>
  obtain ⟨h0, h2, h3, h4⟩ := hc
  obtain ⟨rfl, rfl⟩ : Int.tmod (wrap64 (Int.tdiv a1 a0_2)) a0_0 = r1 ∧ idxW (tagB (wrap64 (Int.tdiv (wrap64 (Int.tdiv a1 a0_2)) a0_0))) (rd_L3 l0_3 (Int.tmod (wrap64 (Int.tdiv a1 a0_2)) a0_0)) = r2 := by
    simpa using h
  have e : Int.tmod (wrap64 (Int.tdiv a1 a0_2)) a0_0 = ((Int.tmod (wrap64 (Int.tdiv a1 a0_2)) a0_0).toNat : Int) := by omega
  have hf := find_calls a0_0 a0_1 a0_2 a1 A0_3 c0_3 l0_3 (Int.tmod (wrap64 (Int.tdiv a1 a0_2)) a0_0).toNat w hr0_3 h0 h2 e (by omega)
  rw [← e] at hf
  exact hf
end Go.Proofs.Ytglehilfemfiiaa.GU
