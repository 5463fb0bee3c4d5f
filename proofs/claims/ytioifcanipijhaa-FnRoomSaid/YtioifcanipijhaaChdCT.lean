/- What slices.Grow of nil, slices.Concat of two rows of words, and border come to, walked by hand. -/

import Derived.Test.YtioifcanipijhaaGCx0T
import Derived.Test.YtioifcanipijhaaChaCT
import Derived.Test.YtioifcanipijhaaHndT
import Derived.Deep.RegionWith
namespace Go.Proofs.Ytioifcanipijhaa.GC
open Go.RowKit Go.Proofs.YtioifcanipijhaaW.PrintWords Go.Proofs.YtioifcanipijhaaW.PrintLast Go.Proofs.YtioifcanipijhaaW.PrintMore Go.Proofs.Ytioifcanipijhaa.Q Go.Proofs.Ytioifcanipijhaa.Hnd
set_option linter.unusedVariables false
set_option linter.unusedSimpArgs false
set_option maxHeartbeats 8000000 in
set_option maxRecDepth 100000 in
theorem grow_calls (n : Nat) (hn : n < 8000000) (W : World) :
    Calls Try.prog 93 #[.slice none 0 0, .int .i64 (n : Int)] W fun e w' => ∃ v : Value, e = .returned v ∧ Kd.R (Kd.int .u32) 46 w' W.heap.size (fun _ => True) v [] ∧ Below W.heap.size W w' := by
  have h0 : ¬ (n : Int) < 0 := by omega
  by_cases hp : 0 < n
  · have hp' : (0 : Int) < (n : Int) := by omega
    have HN := Aside0.mk hn
    have h1 : (0 : Int) ≤ (n : Int) := by omega
    have h2 : (n : Int) ≤ 8000000 := by omega
    clear hn hp
    go_enter Try.func93, Try.ntmps93
    go_wp2_with ((with_reducible refine gate_builtin (b := .append) (xs := #[.tmp 20, .tmp 21]) rfl ?_); at_builtin; refine Kd.R_append_zeros (Kd.int .u32) (w0 := W) W.heap.size rfl (.tmp 20) (.tmp 21) 24 3 46 (.int .u32 0) 4 rfl Try.underlying24 Try.underlying3 info46 rfl (by decide) (by omega) (.slice none 0 0) [] 0 (kx := .i64) (n : Int) (fun _ => True) rfl rfl rfl (fun _ _ => trivial) (Kd.R_nil _ _ _ _ _) (by omega) (Below.refl _ _) (Nat.le_refl _) (by have := HN.out; simp; omega) ?_; intro v1 w1 ho hb hg hat; obtain ⟨A1, c1, rfl⟩ := Kd.R_slice ho; have hq : Kd.R (Kd.int .u32) 46 w1 W.heap.size (fun _ => True) (.slice A1 0 c1) [] := Kd.R_take ho (m := 0) (by simp); have HQ := Aside0.mk hq; have HB := Aside0.mk hb; have hcc := (Kd.R_reads' ho).2.1; have HCC := Aside0.mk hcc; clear ho hb hg hat hq hcc)
    go_ret
    exact ⟨_, rfl, HQ.out, HB.out⟩
  · obtain rfl : n = 0 := by omega
    clear hp hn h0
    go_enter Try.func93, Try.ntmps93
    go_wp2
    go_ret
    exact ⟨_, rfl, Kd.R_nil _ _ _ _ _, Below.refl _ _⟩
def szAt (n1 n2 : Nat) (k : Nat) : Nat := if k = 0 then 0 else if k = 1 then n1 else n1 + n2
def catAt (xs ys : List Int) (k : Nat) : List Int := if k = 0 then [] else if k = 1 then xs else xs ++ ys
set_option maxHeartbeats 8000000 in
set_option maxRecDepth 100000 in
theorem concat_calls (gs : Nat) (A1 A2 : Option Addr) (c1 c2 : Nat) (xs ys : List Int) (W : World) (hb : W.heap[gs]? = some (.cells #[.slice A1 xs.length c1, .slice A2 ys.length c2] 24 (0, 0))) (h1 : Kd.C (Kd.int .u32) W A1 xs.length xs) (h2 : Kd.C (Kd.int .u32) W A2 ys.length ys) (l1 : xs.length < 2000000) (l2 : ys.length < 2000000) :
    Calls Try.prog 87 #[.slice (some ⟨gs, 0, none⟩) 2 2] W fun e w' => ∃ v : Value, e = .returned v ∧ Kd.R (Kd.int .u32) 46 w' W.heap.size (fun _ => True) v (xs ++ ys) ∧ Below W.heap.size W w' := by
  have hlt := blk_lt hb
  have k0 := kc hb 0 rfl
  have k1 := kc hb 1 rfl
  have H1 := Aside0.mk h1
  have H2 := Aside0.mk h2
  have L1 := Aside0.mk l1
  have L2 := Aside0.mk l2
  have HB0 := Aside0.mk hb
  have b1 : (xs.length : Int) ≤ 2000000 := by omega
  have b2 : (ys.length : Int) ≤ 2000000 := by omega
  have b3 : (0 : Int) ≤ (xs.length : Int) := by omega
  have b4 : (0 : Int) ≤ (ys.length : Int) := by omega
  clear h1 h2 hb l1 l2
  go_enter Try.func87, Try.ntmps87
  go_wp2
  go_loopg [3, 5, 11] 2 (fun gg s3 _ s11 wr => ∃ kk : Nat, kk ≤ 2 ∧ 2 - kk ≤ gg ∧ s11 = .int .i64 (kk : Int) ∧ s3 = .int .i64 ((szAt xs.length ys.length kk : Nat) : Int) ∧ W = wr)
  case atStart => exact ⟨0, by omega, by omega, rfl, rfl, rfl⟩
  case round =>
    obtain ⟨kk, hk, hg, rfl, rfl, rfl⟩ := hrel
    have hk3 : kk = 0 ∨ kk = 1 ∨ kk = 2 := by omega
    rcases hk3 with rfl | rfl | rfl
    · rw [show szAt xs.length ys.length 0 = 0 from rfl]
      clear hk
      go_wp2
      go_roundg 1
      case measure => omega
      case rel => exact ⟨1, by omega, by omega, rfl, rfl, rfl⟩
    · rw [show szAt xs.length ys.length 1 = xs.length from rfl]
      clear hk
      go_wp2
      go_roundg 0
      case measure => omega
      case rel => exact ⟨2, by omega, by omega, rfl, rfl, rfl⟩
    · rw [show szAt xs.length ys.length 2 = xs.length + ys.length from rfl]
      clear hk
      go_wp2_with (go_at_call 93; refine (grow_calls (xs.length + ys.length) (by have := L1.out; have := L2.out; omega) _).mono ?_; rintro e w1 ⟨v, rfl, ho, hb⟩; obtain ⟨Av, cv, rfl⟩ := Kd.R_slice ho; have HV := Aside0.mk ho; have HB := Aside0.mk hb; have KB := Aside0.mk (blk_below HB0.out hb); clear hb ho)
      go_loopg [6, 8, 27] 2 (fun gg s6 _ s27 wr => ∃ kk : Nat, kk ≤ 2 ∧ 2 - kk ≤ gg ∧ s27 = .int .i64 (kk : Int) ∧ ∃ (A : Option Addr) (c : Nat), s6 = .slice A (catAt xs ys kk).length c ∧ Aside0 (Kd.R (Kd.int .u32) 46 wr W.heap.size (fun _ => True) (.slice A (catAt xs ys kk).length c) (catAt xs ys kk)) ∧ Aside0 (Below W.heap.size W wr))
      case atStart => exact ⟨0, by omega, by omega, rfl, Av, cv, rfl, HV, HB⟩
      case round =>
        clear HV HB
        obtain ⟨kk, hk, hg, rfl, A, c, rfl, HR, BW⟩ := hrel
        have hk3 : kk = 0 ∨ kk = 1 ∨ kk = 2 := by omega
        rcases hk3 with rfl | rfl | rfl
        · have HV1 : Aside0 (Kd.R (Kd.int .u32) 46 wr W.heap.size (fun _ => True) (.slice A 0 c) ([] : List Int)) := ⟨HR.out⟩
          have y0 := kc (blk_below HB0.out BW.out) 0 rfl
          have hcl : (catAt xs ys 0).length = 0 := rfl
          rw [hcl]
          clear HR hk hcl
          go_wp2_with ((with_reducible refine gate_builtin (b := .append) (xs := #[.tmp 31, .tmp 32]) rfl ?_); at_builtin; refine Kd.R_append_rows (Kd.int .u32) (w0 := W) W.heap.size rfl (.tmp 31) (.tmp 32) 24 46 (.int .u32 0) 4 rfl Try.underlying24 info46 rfl (by decide) (by omega) (.slice A 0 c) ([] : List Int) xs A1 xs.length c1 (fun _ => True) (fun _ => False) rfl rfl HV1.out (Kd.C_below H1.out BW.out) (fun _ _ h => h) (fun _ h => h.elim) (fun _ _ => trivial) BW.out BW.out.size (by have := L1.out; have := L2.out; (try simp only [List.length_nil]); omega) ?_; intro v1 w2 ho hb hg hat; obtain ⟨A5, c5, rfl⟩ := Kd.R_slice ho; have HN := Aside0.mk ho; have BN := Aside0.mk hb; clear ho hb hg hat)
          go_roundg 1
          case measure => omega
          case rel => exact ⟨1, by omega, by omega, rfl, A5, c5, by first | rfl | (simp [catAt]; done), ⟨by first | exact HN.out | (simpa [catAt] using HN.out)⟩, BN⟩
        · have HV1 : Aside0 (Kd.R (Kd.int .u32) 46 wr W.heap.size (fun _ => True) (.slice A xs.length c) xs) := ⟨HR.out⟩
          have y0 := kc (blk_below HB0.out BW.out) 1 rfl
          have hcl : (catAt xs ys 1).length = xs.length := rfl
          rw [hcl]
          clear HR hk hcl
          go_wp2_with ((with_reducible refine gate_builtin (b := .append) (xs := #[.tmp 31, .tmp 32]) rfl ?_); at_builtin; refine Kd.R_append_rows (Kd.int .u32) (w0 := W) W.heap.size rfl (.tmp 31) (.tmp 32) 24 46 (.int .u32 0) 4 rfl Try.underlying24 info46 rfl (by decide) (by omega) (.slice A xs.length c) xs ys A2 ys.length c2 (fun _ => True) (fun _ => False) rfl rfl HV1.out (Kd.C_below H2.out BW.out) (fun _ _ h => h) (fun _ h => h.elim) (fun _ _ => trivial) BW.out BW.out.size (by have := L1.out; have := L2.out; (try simp only [List.length_nil]); omega) ?_; intro v1 w2 ho hb hg hat; obtain ⟨A5, c5, rfl⟩ := Kd.R_slice ho; have HN := Aside0.mk ho; have BN := Aside0.mk hb; clear ho hb hg hat)
          go_roundg 0
          case measure => omega
          case rel => exact ⟨2, by omega, by omega, rfl, A5, c5, by first | rfl | (simp [catAt]; done), ⟨by first | exact HN.out | (simpa [catAt] using HN.out)⟩, BN⟩
        · go_wp2
          go_ret
          exact ⟨_, rfl, HR.out, BW.out⟩
/-- What a border leaves: held, what is ready. -/
def bordF (k0 h : Int) (xs ys : List Int) : Int × List Int := if k0 = 1 then ((ys.length : Int) + (xs.length : Int), ys ++ xs) else if 0 < xs.length then (h, xs) else (h, ys)
end Go.Proofs.Ytioifcanipijhaa.GC
